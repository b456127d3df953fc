/- Ytmdjpohmbkodeaa: the law TraceShifts returns true for every input, and its arguments read as they did: no condition. -/
import Derived.Test.YtmdjpohmbkodeaaRows
import Derived.Test.YtmdjpohmbkodeaaSxV
import Derived.Test.YtmdjpohmbkodeaaSmTraceP
import Derived.HandedShaped
namespace Go.Proofs.Ytmdjpohmbkodeaa
open Go.ChangeShapes Go.WideShapes Go.ChangeAt Go.RowKit Sx
set_option maxRecDepth 100000
set_option linter.unusedVariables false
set_option linter.unusedSimpArgs false
set_option maxHeartbeats 4000000

abbrev X_shiftK := List (den NodeT) × Int × List (den .str) × List (den (.list (.int .i64))) × List (den NodeT) × Int
def sh_shiftK : X_shiftK → St := fun x => match x with | (n, k, nm, rows, m, i) => ⟨setL (rep .bad 105) [(0, .view [] NodeT n), (1, .int .i64 k), (2, .view [] .str nm), (3, .view [] (.list (.int .i64)) rows), (9, .view [] NodeT m), (10, .int .i64 i)], [], [0, 1, 2], [0, 1, 2]⟩
def sx_shiftK : AExit → X_shiftK → St := fun _ => sh_shiftK
def nx_shiftK (σ : St) : X_shiftK := (gV NodeT σ 0, gI σ 1, gV .str σ 2, gV (.list (.int .i64)) σ 3, gV NodeT σ 9, gI σ 10)
def Pre_shiftK : X_shiftK → Prop := fun x => match x with | (n, k, nm, rows, m, i) => i = 0 ∧ m = n ∧ validF n = true ∧ 0 ≤ k ∧ k ≤ 10
def E0_shiftK : X_shiftK → X_shiftK → Prop := fun x y => match x, y with | (n0, k0, nm0, rows0, m0, i0), (n, k, nm, rows, m, i) => (n = n0 ∧ k = k0 ∧ nm = nm0 ∧ rows = rows0) ∧ (m = prevN k n)
def R_shiftK : X_shiftK → X_shiftK → Prop := fun x y => match x, y with | (n0, k0, nm0, rows0, m0, i0), (n, k, nm, rows, m, i) => (n = n0 ∧ k = k0 ∧ nm = nm0 ∧ rows = rows0) ∧ (False)
def D_shiftK : X_shiftK → LEnds X_shiftK := fun x => ⟨[(0, E0_shiftK x)], R_shiftK x⟩
noncomputable def S_shiftK : Summ := summN sh_shiftK sx_shiftK nx_shiftK Pre_shiftK D_shiftK
def Inv_shiftK : X_shiftK → X_shiftK → Prop := fun x y => match x, y with | (n0, k0, nm0, rows0, m0, i0), (n, k, nm, rows, m, i) => (n = n0 ∧ k = k0 ∧ nm = nm0 ∧ rows = rows0) ∧ ((0 ≤ i ∧ i ≤ k) ∧ m = prevN i n)
def M_shiftK : X_shiftK → X_shiftK → Nat := fun x y => match x, y with | (n0, k0, nm0, rows0, m0, i0), (n, k, nm, rows, m, i) => (k - i).toNat
theorem body_shiftK (Inv : X_shiftK → Prop) (meas : X_shiftK → Nat) (nn : Nat) (EE0 RR : X_shiftK → Prop) (n : List (den NodeT)) (k : Int) (nm : List (den .str)) (rows : List (den (.list (.int .i64)))) (m : List (den NodeT)) (i : Int) : awp tab fs_alive (acall tab fs_alive specs_part fns 100 20) [] 100 (loopAt Try.f6 5) (bodyN sh_shiftK sx_shiftK nx_shiftK Inv meas nn ⟨[(0, EE0)], RR⟩) (sh_shiftK (n, k, nm, rows, m, i)) =
  (ifB (ltB i k) (need (fits (@List.nil (den TermT))) (need (allFit (m :: @List.nil (den NodeT.list))) (eqD n n (eqI k k (eqD nm nm (eqD rows rows (eqD (makeF 7 0 0
    (@List.nil (den TermT)) 0 (m :: @List.nil (den NodeT.list))) (makeF 7 0 0 (@List.nil (den TermT)) 0 (m :: @List.nil (den NodeT.list))) (eqI (addW IntKind.i64 i 1)
    (addW IntKind.i64 i 1) (Inv (n, k, nm, rows, makeF 7 0 0 (@List.nil (den TermT)) 0 (m :: @List.nil (den NodeT.list)), addW IntKind.i64 i 1) ∧ meas (n, k, nm, rows,
    makeF 7 0 0 (@List.nil (den TermT)) 0 (m :: @List.nil (den NodeT.list)), addW IntKind.i64 i 1) < nn))))))))) (eqD n n (eqI k k (eqD nm nm (eqD rows rows (eqD m m
    (eqI i i (EE0 (n, k, nm, rows, m, i))))))))) := by kernel_rfl
theorem body_shiftK_ok : ∀ x y, Pre_shiftK x → Inv_shiftK x y → wfS (sh_shiftK y) → Hd (awp tab fs_alive (acall tab fs_alive specs_part fns 100 20) [] 100 (loopAt Try.f6 5) (bodyN sh_shiftK sx_shiftK nx_shiftK (Inv_shiftK x) (M_shiftK x) (M_shiftK x y) (D_shiftK x)) (sh_shiftK y)) := by
  rintro ⟨n0, k0, nm0, rows0, m0, i0⟩ ⟨n, k, nm, rows, m, i⟩ hp hI hw
  obtain ⟨⟨rfl, rfl, rfl, rfl⟩, hI⟩ := hI
  have hw_n := wfL_view hw 0 rfl
  have hw_k := wfL_int hw 1 rfl
  have hw_nm := wfL_view hw 2 rfl
  have hw_rows := wfL_view hw 3 rfl
  have hw_m := wfL_view hw 9 rfl
  have hw_i := wfL_int hw 10 rfl
  have hp : i0 = 0 ∧ m0 = n ∧ validF n = true ∧ 0 ≤ k ∧ k ≤ 10 := hp
  unfold D_shiftK
  rw [body_shiftK]
  refine ⟨?_⟩
  have hInv : ∀ (m : List (den NodeT)) (i : Int), ((0 ≤ i ∧ i ≤ k) ∧ m = prevN i n) → Inv_shiftK (n, k, nm, rows, m0, i0) (n, k, nm, rows, m, i) := fun _ _ h => ⟨⟨rfl, rfl, rfl, rfl⟩, h⟩
  generalize hIe : Inv_shiftK (n, k, nm, rows, m0, i0) = Inv at hInv ⊢
  have hMe : ∀ (m : List (den NodeT)) (i : Int), M_shiftK (n, k, nm, rows, m0, i0) (n, k, nm, rows, m, i) = (k - i).toNat := fun _ _ => rfl
  generalize M_shiftK (n, k, nm, rows, m0, i0) = Me at hMe ⊢
  have hE0 : ∀ (m : List (den NodeT)) (i : Int), (m = prevN k n) → E0_shiftK (n, k, nm, rows, m0, i0) (n, k, nm, rows, m, i) := fun _ _ h => ⟨⟨rfl, rfl, rfl, rfl⟩, h⟩
  generalize E0_shiftK (n, k, nm, rows, m0, i0) = EE0 at hE0 ⊢
  have hR : ∀ (m : List (den NodeT)) (i : Int), (False) → R_shiftK (n, k, nm, rows, m0, i0) (n, k, nm, rows, m, i) := fun _ _ h => ⟨⟨rfl, rfl, rfl, rfl⟩, h⟩
  generalize R_shiftK (n, k, nm, rows, m0, i0) = RR at hR ⊢
  obtain ⟨hi, hI⟩ := hI
  obtain ⟨p1, p2, p3, p4, p5⟩ := hp
  by_cases hlt : i < k
  · have ei : addW .i64 i 1 = i + 1 := addW64 (by omega) (by omega)
    have hv := valid_fit p3
    have hf : allFit (m :: @List.nil (den (.list NodeT))) := by rw [hI]; exact prevK_fit p3 i.toNat (by omega)
    have hn : makeF 7 0 0 [] 0 (m :: @List.nil (den (.list NodeT))) = prevN (i + 1) n := by
      unfold prevN
      rw [show (i + 1).toNat = i.toNat + 1 by omega]
      simp only [prevK]
      rw [hI]; rfl
    have hft : fits (@List.nil (den TermT)) := by unfold fits lenI; simp
    rw [ltB_t.2 hlt]
    simp only [need_def, appL_def, ifB_def, impB_def, selB_f, selB_t, selI_def, selX_def, notB_def, andB_def, orB_def, beqB_def, ltB_def, leB_def, eqB_def, seqB_def, eqI_def, eqL_def, eqS_def, eqD_def, eqT_def, imp_def, inI_def, nzI_def, geZ_def, ret_bool, ret_int, Bool.and_eq_true, Bool.or_eq_true, Bool.not_eq_true', Bool.not_eq_false', decide_eq_true_eq, decide_eq_false_iff_not, Bool.and_eq_false_iff, Bool.or_eq_false_iff, Int.not_lt, Int.not_le, true_and, and_true, implies_true, Bool.false_eq_true, Bool.true_eq_false, false_implies, forall_const, reduceCtorEq, if_true, if_false, true_implies, false_and, and_false, false_or, or_false, true_or, or_true, hMe, ei, hf, hft, hn]
    repeat' (first | with_reducible rfl | assumption | omega | (exact hInv _ _ ⟨by omega, rfl⟩) | refine ⟨?_, ?_⟩ | intro _)
  · have e : i = k := by omega
    rw [ltB_f.2 (Int.not_lt.1 hlt)]
    simp only [need_def, appL_def, ifB_def, impB_def, selB_f, selB_t, selI_def, selX_def, notB_def, andB_def, orB_def, beqB_def, ltB_def, leB_def, eqB_def, seqB_def, eqI_def, eqL_def, eqS_def, eqD_def, eqT_def, imp_def, inI_def, nzI_def, geZ_def, ret_bool, ret_int, Bool.and_eq_true, Bool.or_eq_true, Bool.not_eq_true', Bool.not_eq_false', decide_eq_true_eq, decide_eq_false_iff_not, Bool.and_eq_false_iff, Bool.or_eq_false_iff, Int.not_lt, Int.not_le, true_and, and_true, implies_true, Bool.false_eq_true, Bool.true_eq_false, false_implies, forall_const, reduceCtorEq, if_true, if_false, true_implies, false_and, and_false, false_or, or_false, true_or, or_true]
    exact hE0 _ _ (by rw [hI, e])
theorem summ_shiftK : SummOK Try.prog (loopAt Try.f6 5) S_shiftK :=
  summN_ok (L := []) (fuel := 100) tabOK fsOK_alive (mkCall fsOK_alive specsOK_part fnsOK) (fun C => mkDraw fsOK_alive (mkCall fsOK_alive specsOK_part fnsOK) C) loopsOK_nil Inv_shiftK M_shiftK
    (fun x hp hw => by
      obtain ⟨n, k, nm, rows, m, i⟩ := x
      have hp : i = 0 ∧ m = n ∧ validF n = true ∧ 0 ≤ k ∧ k ≤ 10 := hp
      have hw_n := wfL_view hw 0 rfl
      have hw_k := wfL_int hw 1 rfl
      have hw_nm := wfL_view hw 2 rfl
      have hw_rows := wfL_view hw 3 rfl
      have hw_m := wfL_view hw 9 rfl
      have hw_i := wfL_int hw 10 rfl
      obtain ⟨rfl, rfl, h, h2⟩ := hp
      exact ⟨⟨rfl, rfl, rfl, rfl⟩, by omega, rfl⟩)
    (body_shiftK_ok)
abbrev X_shifts := Int × List (den (.list (.int .i64))) × List (den (.int .i64)) × List (den (.int .i64)) × Int × Bool
def sh_shifts : X_shifts → St := fun x => match x with | (k, rows, a, b, i, r) => ⟨setL (rep .bad 105) [(1, .int .i64 k), (3, .view [] (.list (.int .i64)) rows), (11, .view [] (.int .i64) a), (13, .view [] (.int .i64) b), (15, .int .i64 i)], [], [0, 1, 2], [0, 1, 2]⟩
def shr_shifts : X_shifts → St := fun x => match x with | (k, rows, a, b, i, r) => ⟨setL (rep .bad 105) [(1, .int .i64 k), (3, .view [] (.list (.int .i64)) rows), (11, .view [] (.int .i64) a), (13, .view [] (.int .i64) b), (15, .int .i64 i), (8, .bool r)], [], [0, 1, 2], [0, 1, 2]⟩
def sx_shifts : AExit → X_shifts → St := fun e => match e with | .ret => shr_shifts | _ => sh_shifts
def nx_shifts (σ : St) : X_shifts := (gI σ 1, gV (.list (.int .i64)) σ 3, gV (.int .i64) σ 11, gV (.int .i64) σ 13, gI σ 15, gB σ 8)
def Pre_shifts : X_shifts → Prop := fun x => match x with | (k, rows, a, b, i, r) => i = 0 ∧ shiftsOK k a b ∧ lenI a = lenI rows ∧ lenI b = lenI rows ∧ 0 ≤ k ∧ k ≤ 10
def E2_shifts : X_shifts → X_shifts → Prop := fun x y => match x, y with | (k0, rows0, a0, b0, i0, r0), (k, rows, a, b, i, r) => (k = k0 ∧ rows = rows0 ∧ a = a0 ∧ b = b0) ∧ (True)
def R_shifts : X_shifts → X_shifts → Prop := fun x y => match x, y with | (k0, rows0, a0, b0, i0, r0), (k, rows, a, b, i, r) => (k = k0 ∧ rows = rows0 ∧ a = a0 ∧ b = b0) ∧ (False)
def D_shifts : X_shifts → LEnds X_shifts := fun x => ⟨[(2, E2_shifts x)], R_shifts x⟩
noncomputable def S_shifts : Summ := summN sh_shifts sx_shifts nx_shifts Pre_shifts D_shifts
def Inv_shifts : X_shifts → X_shifts → Prop := fun x y => match x, y with | (k0, rows0, a0, b0, i0, r0), (k, rows, a, b, i, r) => (k = k0 ∧ rows = rows0 ∧ a = a0 ∧ b = b0) ∧ (0 ≤ i ∧ i ≤ lenI rows)
def M_shifts : X_shifts → X_shifts → Nat := fun x y => match x, y with | (k0, rows0, a0, b0, i0, r0), (k, rows, a, b, i, r) => (lenI rows - i).toNat
theorem body_shifts (Inv : X_shifts → Prop) (meas : X_shifts → Nat) (nn : Nat) (EE2 RR : X_shifts → Prop) (k : Int) (rows : List (den (.list (.int .i64)))) (a : List (den (.int .i64))) (b : List (den (.int .i64))) (i : Int) (r : Bool) : awp tab fs_alive (acall tab fs_alive specs_part fns 100 20) [] 100 (loopAt Try.f6 15) (bodyN sh_shifts sx_shifts nx_shifts Inv meas nn ⟨[(2, EE2)], RR⟩) (sh_shifts (k, rows, a, b, i, r)) =
  (ifB (ltB i (lenI rows)) (need (impB (leB k i) (inI (subW IntKind.i64 i k) (lenI a))) (need (inI i (lenI a)) (need (inI i (lenI b)) (ifB (notB (eqB (nth (Ty.int IntKind.i64)
    b i) (selI (eqB (nth (Ty.int IntKind.i64) a i) 2) 2 (selI (leB k i) (nth (Ty.int IntKind.i64) a (subW IntKind.i64 i k)) 0)))) (eqI k k (eqD rows rows (eqL false
    false (eqD a a (eqD b b (eqI i i (RR (k, rows, a, b, i, false)))))))) (eqI k k (eqD rows rows (eqD a a (eqD b b (eqI (addW IntKind.i64 i 1) (addW IntKind.i64 i 1)
    (Inv (k, rows, a, b, addW IntKind.i64 i 1, false) ∧ meas (k, rows, a, b, addW IntKind.i64 i 1, false) < nn)))))))))) (eqI k k (eqD rows rows (eqD a a (eqD b b (eqI
    i i (EE2 (k, rows, a, b, i, false)))))))) := by kernel_rfl
theorem body_shifts_ok : ∀ x y, Pre_shifts x → Inv_shifts x y → wfS (sh_shifts y) → Hd (awp tab fs_alive (acall tab fs_alive specs_part fns 100 20) [] 100 (loopAt Try.f6 15) (bodyN sh_shifts sx_shifts nx_shifts (Inv_shifts x) (M_shifts x) (M_shifts x y) (D_shifts x)) (sh_shifts y)) := by
  rintro ⟨k0, rows0, a0, b0, i0, r0⟩ ⟨k, rows, a, b, i, r⟩ hp hI hw
  obtain ⟨⟨rfl, rfl, rfl, rfl⟩, hI⟩ := hI
  have hw_k := wfL_int hw 1 rfl
  have hw_rows := wfL_view hw 3 rfl
  have hw_a := wfL_view hw 11 rfl
  have hw_b := wfL_view hw 13 rfl
  have hw_i := wfL_int hw 15 rfl
  have hp : i0 = 0 ∧ shiftsOK k a b ∧ lenI a = lenI rows ∧ lenI b = lenI rows ∧ 0 ≤ k ∧ k ≤ 10 := hp
  unfold D_shifts
  rw [body_shifts]
  refine ⟨?_⟩
  have hInv : ∀ (i : Int) (r : Bool), (0 ≤ i ∧ i ≤ lenI rows) → Inv_shifts (k, rows, a, b, i0, r0) (k, rows, a, b, i, r) := fun _ _ h => ⟨⟨rfl, rfl, rfl, rfl⟩, h⟩
  generalize hIe : Inv_shifts (k, rows, a, b, i0, r0) = Inv at hInv ⊢
  have hMe : ∀ (i : Int) (r : Bool), M_shifts (k, rows, a, b, i0, r0) (k, rows, a, b, i, r) = (lenI rows - i).toNat := fun _ _ => rfl
  generalize M_shifts (k, rows, a, b, i0, r0) = Me at hMe ⊢
  have hE2 : ∀ (i : Int) (r : Bool), (True) → E2_shifts (k, rows, a, b, i0, r0) (k, rows, a, b, i, r) := fun _ _ h => ⟨⟨rfl, rfl, rfl, rfl⟩, h⟩
  generalize E2_shifts (k, rows, a, b, i0, r0) = EE2 at hE2 ⊢
  have hR : ∀ (i : Int) (r : Bool), (False) → R_shifts (k, rows, a, b, i0, r0) (k, rows, a, b, i, r) := fun _ _ h => ⟨⟨rfl, rfl, rfl, rfl⟩, h⟩
  generalize R_shifts (k, rows, a, b, i0, r0) = RR at hR ⊢
  obtain ⟨p1, p2, p3, p4, p5, p6⟩ := hp
  by_cases hlt : i < lenI rows
  · have hlen := wfT_len hw_rows
    have ei : addW .i64 i 1 = i + 1 := addW64 (by omega) (by omega)
    have es : subW .i64 i k = i - k := subW64 (by omega) (by omega)
    have h1 := p2 i hI.1 (by omega)
    rw [ltB_t.2 hlt]
    simp only [ei, es]
    have hc : eqB (nth (.int .i64) b i) (selI (eqB (nth (.int .i64) a i) 2) 2 (selI (leB k i) (nth (.int .i64) a (i - k)) 0)) = true := by
      rw [eqB_t, h1, selI_def, selI_def]
      simp only [eqB_def, leB_def, decide_eq_true_eq]
    rw [hc]
    simp only [need_def, appL_def, ifB_def, impB_def, selB_f, selB_t, selI_def, selX_def, notB_def, andB_def, orB_def, beqB_def, ltB_def, leB_def, eqB_def, seqB_def, eqI_def, eqL_def, eqS_def, eqD_def, eqT_def, imp_def, inI_def, nzI_def, geZ_def, ret_bool, ret_int, Bool.and_eq_true, Bool.or_eq_true, Bool.not_eq_true', Bool.not_eq_false', decide_eq_true_eq, decide_eq_false_iff_not, Bool.and_eq_false_iff, Bool.or_eq_false_iff, Int.not_lt, Int.not_le, true_and, and_true, implies_true, Bool.false_eq_true, Bool.true_eq_false, false_implies, forall_const, reduceCtorEq, if_true, if_false, true_implies, false_and, and_false, false_or, or_false, true_or, or_true, hMe, p3, p4]
    repeat' (first | with_reducible rfl | assumption | omega | (exact hInv _ _ ⟨by omega, by omega⟩) | refine ⟨?_, ?_⟩ | intro _)
  · rw [ltB_f.2 (Int.not_lt.1 hlt)]
    simp only [need_def, appL_def, ifB_def, impB_def, selB_f, selB_t, selI_def, selX_def, notB_def, andB_def, orB_def, beqB_def, ltB_def, leB_def, eqB_def, seqB_def, eqI_def, eqL_def, eqS_def, eqD_def, eqT_def, imp_def, inI_def, nzI_def, geZ_def, ret_bool, ret_int, Bool.and_eq_true, Bool.or_eq_true, Bool.not_eq_true', Bool.not_eq_false', decide_eq_true_eq, decide_eq_false_iff_not, Bool.and_eq_false_iff, Bool.or_eq_false_iff, Int.not_lt, Int.not_le, true_and, and_true, implies_true, Bool.false_eq_true, Bool.true_eq_false, false_implies, forall_const, reduceCtorEq, if_true, if_false, true_implies, false_and, and_false, false_or, or_false, true_or, or_true]
    exact hE2 _ _ trivial
theorem summ_shifts : SummOK Try.prog (loopAt Try.f6 15) S_shifts :=
  summN_ok (L := []) (fuel := 100) tabOK fsOK_alive (mkCall fsOK_alive specsOK_part fnsOK) (fun C => mkDraw fsOK_alive (mkCall fsOK_alive specsOK_part fnsOK) C) loopsOK_nil Inv_shifts M_shifts
    (fun x hp hw => by
      obtain ⟨k, rows, a, b, i, r⟩ := x
      have hp : i = 0 ∧ shiftsOK k a b ∧ lenI a = lenI rows ∧ lenI b = lenI rows ∧ 0 ≤ k ∧ k ≤ 10 := hp
      have hw_k := wfL_int hw 1 rfl
      have hw_rows := wfL_view hw 3 rfl
      have hw_a := wfL_view hw 11 rfl
      have hw_b := wfL_view hw 13 rfl
      have hw_i := wfL_int hw 15 rfl
      obtain ⟨rfl, _⟩ := hp
      exact ⟨⟨rfl, rfl, rfl, rfl⟩, by omega, lenI_nn _⟩)
    (body_shifts_ok)
noncomputable def fns_LTraceShifts : Fns := (6, Try.f6, [(5, S_shiftK), (15, S_shifts)]) :: fns
theorem fn_LTraceShifts : FnOK Try.prog 6 Try.f6 [(5, S_shiftK), (15, S_shifts)] := fnOK_loops Try.func6 (fun vs w => Try.call6 vs w) (by kernel_rfl) fun k S h => by
  simp only [List.mem_cons, Prod.mk.injEq, List.not_mem_nil, or_false] at h
  rcases h with ⟨rfl, rfl⟩ | ⟨rfl, rfl⟩
  · exact summ_shiftK
  · exact summ_shifts
theorem fns_LTraceShiftsOK : FnsOK Try.prog fns_LTraceShifts := fnsOK_cons fn_LTraceShifts fnsOK
theorem TraceShifts_eq (n : List (den NodeT)) (k : Int) (nm : List (den .str)) (rows : List (den (.list (.int .i64)))) : acall tab fs_alive specs_part fns_LTraceShifts 100 20 6 [.view [] NodeT n, .int .i64 k, .view [] .str nm, .view [] (.list (.int .i64)) rows] [] (fun o _ _ _ => o = .ret (.bool true)) =
  (ifB (selB (selB (selB (notB (validF n)) true (notB (rowsB rows nm))) true (ltB k 0)) true (ltB 10 k)) (AOut.ret (AV.bool true) = AOut.ret (AV.bool true)) (eqD n
    n (eqI k k (eqD nm nm (eqD rows rows (eqD n n (eqI 0 0 (((0 : Int) = 0 ∧ n = n ∧ validF n = true ∧ 0 ≤ k ∧ k ≤ 10) ∧ ((∀ (y : X_shiftK), (y.1 = n ∧ y.2.1 = k ∧ y.2.2.1
    = nm ∧ y.2.2.2.1 = rows) ∧ y.2.2.2.2.1 = prevN y.2.1 y.1 → need (midN y.1) (need (oneR (lenI y.2.2.2.1)) (need (midN y.2.2.2.2.1) (need (oneR (lenI y.2.2.2.1)) (ifB
    (selB (notB (eqB (rightE y.1) 0)) true (notB (eqB (rightE y.2.2.2.2.1) 0))) (AOut.ret (AV.bool true) = AOut.ret (AV.bool true)) (ifB (selB (notB (eqB (lenI (allL
    y.1 y.2.2.1 y.2.2.2.1)) (lenI y.2.2.2.1))) true (notB (eqB (lenI (allL y.2.2.2.2.1 y.2.2.1 y.2.2.2.1)) (lenI y.2.2.2.1)))) (AOut.ret (AV.bool false) = AOut.ret (AV.bool
    true)) (eqI y.2.1 y.2.1 (eqD y.2.2.2.1 y.2.2.2.1 (eqD (allL y.1 y.2.2.1 y.2.2.2.1) (allL y.1 y.2.2.1 y.2.2.2.1) (eqD (allL y.2.2.2.2.1 y.2.2.1 y.2.2.2.1) (allL y.2.2.2.2.1
    y.2.2.1 y.2.2.2.1) (eqI 0 0 (((0 : Int) = 0 ∧ shiftsOK y.2.1 (allL y.1 y.2.2.1 y.2.2.2.1) (allL y.2.2.2.2.1 y.2.2.1 y.2.2.2.1) ∧ lenI (allL y.1 y.2.2.1 y.2.2.2.1)
    = lenI y.2.2.2.1 ∧ lenI (allL y.2.2.2.2.1 y.2.2.1 y.2.2.2.1) = lenI y.2.2.2.1 ∧ 0 ≤ y.2.1 ∧ y.2.1 ≤ 10) ∧ ((∀ (y_1 : X_shifts), (y_1.1 = y.2.1 ∧ y_1.2.1 = y.2.2.2.1
    ∧ y_1.2.2.1 = allL y.1 y.2.2.1 y.2.2.2.1 ∧ y_1.2.2.2.1 = allL y.2.2.2.2.1 y.2.2.1 y.2.2.2.1) ∧ True → AOut.ret (AV.bool true) = AOut.ret (AV.bool true)) ∧ True)
    ∧ ∀ (y_1 : X_shifts), (y_1.1 = y.2.1 ∧ y_1.2.1 = y.2.2.2.1 ∧ y_1.2.2.1 = allL y.1 y.2.2.1 y.2.2.2.1 ∧ y_1.2.2.2.1 = allL y.2.2.2.2.1 y.2.2.1 y.2.2.2.1) ∧ False →
    AOut.ret (AV.bool y_1.2.2.2.2.2) = AOut.ret (AV.bool true))))))))))))) ∧ True) ∧ ∀ (y : X_shiftK), (y.1 = n ∧ y.2.1 = k ∧ y.2.2.1 = nm ∧ y.2.2.2.1 = rows) ∧ False
    → AOut.ret AV.bad = AOut.ret (AV.bool true))))))))) := by kernel_rfl
theorem TraceShifts_call : CallOK Try.prog (acall tab fs_alive specs_part fns_LTraceShifts 100 20) := mkCall fsOK_alive specsOK_part fns_LTraceShiftsOK
theorem TraceShifts_go (n : List (den NodeT)) (k : Int) (nm : List (den .str)) (rows : List (den (.list (.int .i64)))) : LawEv (acall tab fs_alive specs_part fns_LTraceShifts 100 20) 6 [.view [] NodeT n, .int .i64 k, .view [] .str nm, .view [] (.list (.int .i64)) rows] := by
  refine ⟨?_⟩
  rw [TraceShifts_eq]
  rw [ifB_def]
  refine ⟨fun _ => rfl, fun hg => ?_⟩
  simp only [selB_t, ltB_def, notB_def, Bool.or_eq_false_iff, decide_eq_false_iff_not, Int.not_lt, Bool.not_eq_false'] at hg
  obtain ⟨⟨⟨g1, g2⟩, g3⟩, g4⟩ := hg
  have hv := valid_right g1
  have hf := prevK_facts g1 k.toNat
  have mn : midN n := by unfold midN; omega
  have mk : midN (prevN k n) := by
    unfold midN prevN
    rw [hf.2.1]; omega
  have hro : oneR (lenI rows) := by
    unfold rowsB at g2
    simp only [Bool.and_eq_true, decide_eq_true_eq] at g2
    unfold oneR; omega
  simp only [need_def, eqI_def, eqL_def, eqD_def, true_and, and_true, g1, g3, g4, and_false, false_implies, implies_true]
  rintro ⟨n', k', nm', rows', m, i⟩ ⟨hk, hm⟩
  dsimp only at hk hm ⊢
  obtain ⟨rfl, rfl, rfl, rfl⟩ := hk
  subst hm
  refine ⟨mn, hro, mk, hro, ?_⟩
  by_cases e : rightE n' = 0
  · by_cases f : rightE (prevN k' n') = 0
    · have la := all_len (nm := nm') (rows := rows') e mn
      have lb := all_len (nm := nm') (rows := rows') f mk
      have hs : shiftsOK k' (allL n' nm' rows') (allL (prevN k' n') nm' rows') := shifts_ok g1 g3 g4 e f
      rw [eqB_t.2 e, eqB_t.2 f, eqB_t.2 la, eqB_t.2 lb]
      simp only [need_def, appL_def, ifB_def, impB_def, selB_f, selB_t, selI_def, selX_def, notB_def, andB_def, orB_def, beqB_def, ltB_def, leB_def, eqB_def, seqB_def, eqI_def, eqL_def, eqS_def, eqD_def, eqT_def, imp_def, inI_def, nzI_def, geZ_def, ret_bool, ret_int, Bool.and_eq_true, Bool.or_eq_true, Bool.not_eq_true', Bool.not_eq_false', decide_eq_true_eq, decide_eq_false_iff_not, Bool.and_eq_false_iff, Bool.or_eq_false_iff, Int.not_lt, Int.not_le, true_and, and_true, implies_true, Bool.false_eq_true, Bool.true_eq_false, false_implies, forall_const, reduceCtorEq, if_true, if_false, true_implies, false_and, and_false, false_or, or_false, true_or, or_true, hs, la, lb, g3, g4]
    · rw [eqB_f.2 f]
      simp only [need_def, appL_def, ifB_def, impB_def, selB_f, selB_t, selI_def, selX_def, notB_def, andB_def, orB_def, beqB_def, ltB_def, leB_def, eqB_def, seqB_def, eqI_def, eqL_def, eqS_def, eqD_def, eqT_def, imp_def, inI_def, nzI_def, geZ_def, ret_bool, ret_int, Bool.and_eq_true, Bool.or_eq_true, Bool.not_eq_true', Bool.not_eq_false', decide_eq_true_eq, decide_eq_false_iff_not, Bool.and_eq_false_iff, Bool.or_eq_false_iff, Int.not_lt, Int.not_le, true_and, and_true, implies_true, Bool.false_eq_true, Bool.true_eq_false, false_implies, forall_const, reduceCtorEq, if_true, if_false, true_implies, false_and, and_false, false_or, or_false, true_or, or_true]
  · rw [eqB_f.2 e]
    simp only [need_def, appL_def, ifB_def, impB_def, selB_f, selB_t, selI_def, selX_def, notB_def, andB_def, orB_def, beqB_def, ltB_def, leB_def, eqB_def, seqB_def, eqI_def, eqL_def, eqS_def, eqD_def, eqT_def, imp_def, inI_def, nzI_def, geZ_def, ret_bool, ret_int, Bool.and_eq_true, Bool.or_eq_true, Bool.not_eq_true', Bool.not_eq_false', decide_eq_true_eq, decide_eq_false_iff_not, Bool.and_eq_false_iff, Bool.or_eq_false_iff, Int.not_lt, Int.not_le, true_and, and_true, implies_true, Bool.false_eq_true, Bool.true_eq_false, false_implies, forall_const, reduceCtorEq, if_true, if_false, true_implies, false_and, and_false, false_or, or_false, true_or, or_true]
theorem TraceShifts_ev : ∀ xs : DT [(.list (.prod (.int .i64) (.prod (.int .i64) (.prod (.int .i64) (.prod (.int .i64) (.prod (.list (.prod .str (.int .i64))) (.int .i64))))))), (.int .i64), (.list .str), (.list (.list (.int .i64)))], wfs [(.list (.prod (.int .i64) (.prod (.int .i64) (.prod (.int .i64) (.prod (.int .i64) (.prod (.list (.prod .str (.int .i64))) (.int .i64))))))), (.int .i64), (.list .str), (.list (.list (.int .i64)))] xs → LawEv (acall tab fs_alive specs_part fns_LTraceShifts 100 20) 6 (argsA tab #[28, 3, 25, 30].toList [(.list (.prod (.int .i64) (.prod (.int .i64) (.prod (.int .i64) (.prod (.int .i64) (.prod (.list (.prod .str (.int .i64))) (.int .i64))))))), (.int .i64), (.list .str), (.list (.list (.int .i64)))] xs) := by
  rintro ⟨n, k, nm, rows, ⟨⟩⟩ hw
  exact TraceShifts_go n k nm rows



theorem TraceShifts_own : ownKnob Try.prog.godebug = none := by kernel_rfl
theorem TraceShifts_kids : Kids Try.prog (· < Try.prog.types.size) := kids_rows (by kernel_rfl) (by kernel_rfl)
theorem TraceShifts_full : ∀ t e, t < Try.prog.types.size → Try.prog.underlying t = some (.slice e) → 0 < Try.prog.cellsOf e := slices_full_of _ (by kernel_rfl)

theorem TraceShifts_lifted (os : Os) (started : os.Started) (H : Type) (enc : TypeId × Value → H) :
    ReturnsInHanded {} Try.checked os 6 .any (Rows.traceShiftsSpec.pre6 enc Try.prog Try.f6 Rows.traceShiftsRow.domain false) (Rows.traceShiftsSpec.post enc Try.prog Try.f6 false true false false) := by
  refine returnsInHanded_of_change_shaped (C := Try.checked) TraceShifts_own started (by kernel_rfl) Try.func6
    (ChangeSpec.witness6 (enc := enc) (C := Try.checked) false ⟨#[], #[(Value.slice none 0 0), (Value.int IntKind.i64 0), (Value.slice none 0 0), (Value.slice none 0 0)], []⟩ 8 (by kernel_rfl) (by kernel_rfl) (by kernel_rfl) (by kernel_rfl)) ?_
  intro W base args ds gs before hval hW _ hwt _ _
  refine law_contract' (P := Try.prog) (fn := Try.f6) (s := Rows.traceShiftsSpec) (tb := 4) (Ts := [(.list (.prod (.int .i64) (.prod (.int .i64) (.prod (.int .i64) (.prod (.int .i64) (.prod (.list (.prod .str (.int .i64))) (.int .i64))))))), (.int .i64), (.list .str), (.list (.list (.int .i64)))]) (call := (acall tab fs_alive specs_part fns_LTraceShifts 100 20)) (f := 6) tabOK TraceShifts_call TraceShifts_kids TraceShifts_full Try.params6 (by decide +kernel) rfl rfl Try.underlying4 ?_ (by kernel_rfl) TraceShifts_ev hval hW hwt
  intro ds hl
  match ds, hl with
  | [d0, d1, d2, d3], _ => rfl

theorem TraceShifts_holds : Rows.TraceShiftsSaid :=
  OpenClaim.holds_of_wide 6 Try.f6 rfl rfl rfl rfl rfl rfl rfl ⟨rfl, rfl, rfl, rfl, rfl⟩ rfl rfl rfl rfl rfl (by kernel_rfl) Try.func6 (by kernel_rfl)
    (of_decide_eq_true (by kernel_rfl)) (by unfold Func.isWrapper; first | (rw [if_pos (by decide +kernel)]; kernel_rfl) | (rw [if_neg (by decide +kernel)]; exact ⟨rfl, rfl⟩))
    (fun os started H enc _ => TraceShifts_lifted os started H enc)

end Go.Proofs.Ytmdjpohmbkodeaa
