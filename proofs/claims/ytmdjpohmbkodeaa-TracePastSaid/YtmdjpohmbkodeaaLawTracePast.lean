/- Ytmdjpohmbkodeaa: the law TracePast returns true for every input, and its arguments read as they did: no condition. -/
import Derived.Test.YtmdjpohmbkodeaaRows
import Derived.Test.YtmdjpohmbkodeaaSxV
import Derived.Test.YtmdjpohmbkodeaaSmTraceQ
import Derived.HandedShaped
namespace Go.Proofs.Ytmdjpohmbkodeaa
open Go.ChangeShapes Go.WideShapes Go.ChangeAt Go.RowKit Sx
set_option maxRecDepth 100000
set_option linter.unusedVariables false
set_option linter.unusedSimpArgs false
set_option maxHeartbeats 4000000

abbrev X_past := List (den (.list (.int .i64))) × List (den (.list (.int .i64))) × List (den (.int .i64)) × List (den (.int .i64)) × Bool × Int × Bool
def sh_past : X_past → St := fun x => match x with | (rows, more, l, m, over, i, r) => ⟨setL (rep .bad 115) [(2, .view [] (.list (.int .i64)) rows), (3, .view [] (.list (.int .i64)) more), (9, .view [] (.int .i64) l), (11, .view [0] (.int .i64) m), (13, .bool over), (14, .int .i64 i)], [], [0, 1, 2], [0, 1, 2]⟩
def shr_past : X_past → St := fun x => match x with | (rows, more, l, m, over, i, r) => ⟨setL (rep .bad 115) [(2, .view [] (.list (.int .i64)) rows), (3, .view [] (.list (.int .i64)) more), (9, .view [] (.int .i64) l), (11, .view [0] (.int .i64) m), (13, .bool over), (14, .int .i64 i), (8, .bool r)], [], [0, 1, 2], [0, 1, 2]⟩
def sx_past : AExit → X_past → St := fun e => match e with | .ret => shr_past | _ => sh_past
def nx_past (σ : St) : X_past := (gV (.list (.int .i64)) σ 2, gV (.list (.int .i64)) σ 3, gV (.int .i64) σ 9, gV (.int .i64) σ 11, gB σ 13, gI σ 14, gB σ 8)
def Pre_past : X_past → Prop := fun x => match x with | (rows, more, l, m, over, i, r) => i = 0 ∧ over = false ∧ pastOK m
def E0_past : X_past → X_past → Prop := fun x y => match x, y with | (rows0, more0, l0, m0, over0, i0, r0), (rows, more, l, m, over, i, r) => (rows = rows0 ∧ more = more0 ∧ l = l0 ∧ m = m0) ∧ (True)
def R_past : X_past → X_past → Prop := fun x y => match x, y with | (rows0, more0, l0, m0, over0, i0, r0), (rows, more, l, m, over, i, r) => (rows = rows0 ∧ more = more0 ∧ l = l0 ∧ m = m0) ∧ (False)
def D_past : X_past → LEnds X_past := fun x => ⟨[(0, E0_past x)], R_past x⟩
noncomputable def S_past : Summ := summN sh_past sx_past nx_past Pre_past D_past
def Inv_past : X_past → X_past → Prop := fun x y => match x, y with | (rows0, more0, l0, m0, over0, i0, r0), (rows, more, l, m, over, i, r) => (rows = rows0 ∧ more = more0 ∧ l = l0 ∧ m = m0) ∧ ((0 ≤ i ∧ i ≤ lenI m) ∧ (over = true → 0 < i ∧ nth (.int .i64) m (i - 1) = 2))
def M_past : X_past → X_past → Nat := fun x y => match x, y with | (rows0, more0, l0, m0, over0, i0, r0), (rows, more, l, m, over, i, r) => (lenI m - i).toNat
theorem body_past (Inv : X_past → Prop) (meas : X_past → Nat) (nn : Nat) (EE0 RR : X_past → Prop) (rows : List (den (.list (.int .i64)))) (more : List (den (.list (.int .i64)))) (l : List (den (.int .i64))) (m : List (den (.int .i64))) (over : Bool) (i : Int) (r : Bool) : awp tab fs_alive (acall tab fs_alive specs_part fns 100 20) [] 100 (loopAt Try.f5 9) (bodyN sh_past sx_past nx_past Inv meas nn ⟨[(0, EE0)], RR⟩) (sh_past (rows, more, l, m, over, i, r)) =
  (ifB (ltB i (lenI m)) (need (impB over (inI i (lenI m))) (need (impB (notB (selB over (notB (eqB (nth (Ty.int IntKind.i64) m i) 2)) false)) (inI i (lenI m))) (need
    (impB (notB (selB (selB over (notB (eqB (nth (Ty.int IntKind.i64) m i) 2)) false) true (ltB (nth (Ty.int IntKind.i64) m i) 0))) (inI i (lenI m))) (ifB (selB (selB
    (selB over (notB (eqB (nth (Ty.int IntKind.i64) m i) 2)) false) true (ltB (nth (Ty.int IntKind.i64) m i) 0)) true (ltB 2 (nth (Ty.int IntKind.i64) m i))) (eqD rows
    rows (eqD more more (eqL false false (eqD l l (eqD m m (eqL over over (eqI i i (RR (rows, more, l, m, over, i, false))))))))) (need (inI i (lenI m)) (eqD rows rows
    (eqD more more (eqD l l (eqD m m (eqL (eqB (nth (Ty.int IntKind.i64) m i) 2) (eqB (nth (Ty.int IntKind.i64) m i) 2) (eqI (addW IntKind.i64 i 1) (addW IntKind.i64
    i 1) (Inv (rows, more, l, m, eqB (nth (Ty.int IntKind.i64) m i) 2, addW IntKind.i64 i 1, false) ∧ meas (rows, more, l, m, eqB (nth (Ty.int IntKind.i64) m i) 2, addW
    IntKind.i64 i 1, false) < nn)))))))))))) (eqD rows rows (eqD more more (eqD l l (eqD m m (eqL over over (eqI i i (EE0 (rows, more, l, m, over, i, false))))))))) := by kernel_rfl
theorem body_past_ok : ∀ x y, Pre_past x → Inv_past x y → wfS (sh_past y) → Hd (awp tab fs_alive (acall tab fs_alive specs_part fns 100 20) [] 100 (loopAt Try.f5 9) (bodyN sh_past sx_past nx_past (Inv_past x) (M_past x) (M_past x y) (D_past x)) (sh_past y)) := by
  rintro ⟨rows0, more0, l0, m0, over0, i0, r0⟩ ⟨rows, more, l, m, over, i, r⟩ hp hI hw
  obtain ⟨⟨rfl, rfl, rfl, rfl⟩, hI⟩ := hI
  have hw_rows := wfL_view hw 2 rfl
  have hw_more := wfL_view hw 3 rfl
  have hw_l := wfL_view hw 9 rfl
  have hw_m := wfL_view hw 11 rfl
  have hw_i := wfL_int hw 14 rfl
  have hp : i0 = 0 ∧ over0 = false ∧ pastOK m := hp
  unfold D_past
  rw [body_past]
  refine ⟨?_⟩
  have hInv : ∀ (over : Bool) (i : Int) (r : Bool), ((0 ≤ i ∧ i ≤ lenI m) ∧ (over = true → 0 < i ∧ nth (.int .i64) m (i - 1) = 2)) → Inv_past (rows, more, l, m, over0, i0, r0) (rows, more, l, m, over, i, r) := fun _ _ _ h => ⟨⟨rfl, rfl, rfl, rfl⟩, h⟩
  generalize hIe : Inv_past (rows, more, l, m, over0, i0, r0) = Inv at hInv ⊢
  have hMe : ∀ (over : Bool) (i : Int) (r : Bool), M_past (rows, more, l, m, over0, i0, r0) (rows, more, l, m, over, i, r) = (lenI m - i).toNat := fun _ _ _ => rfl
  generalize M_past (rows, more, l, m, over0, i0, r0) = Me at hMe ⊢
  have hE0 : ∀ (over : Bool) (i : Int) (r : Bool), (True) → E0_past (rows, more, l, m, over0, i0, r0) (rows, more, l, m, over, i, r) := fun _ _ _ h => ⟨⟨rfl, rfl, rfl, rfl⟩, h⟩
  generalize E0_past (rows, more, l, m, over0, i0, r0) = EE0 at hE0 ⊢
  have hR : ∀ (over : Bool) (i : Int) (r : Bool), (False) → R_past (rows, more, l, m, over0, i0, r0) (rows, more, l, m, over, i, r) := fun _ _ _ h => ⟨⟨rfl, rfl, rfl, rfl⟩, h⟩
  generalize R_past (rows, more, l, m, over0, i0, r0) = RR at hR ⊢
  obtain ⟨hi, ho⟩ := hI
  obtain ⟨p1, p2, p3⟩ := hp
  by_cases hlt : i < lenI m
  · have hlen := wfT_len hw_m
    have ei : addW .i64 i 1 = i + 1 := addW64 (by omega) (by omega)
    obtain ⟨h1, h2⟩ := p3 i hi.1 hlt
    have hsub : i + 1 - 1 = i := by omega
    have c0 : selB over (notB (eqB (nth (.int .i64) m i) 2)) false = false := by
      cases over with
      | false => rfl
      | true =>
        have := ho rfl
        rw [eqB_t.2 (h2 this.1 this.2)]; rfl
    have c1 : ltB (nth (.int .i64) m i) 0 = false := ltB_f.2 h1.1
    have c2 : ltB 2 (nth (.int .i64) m i) = false := ltB_f.2 h1.2
    have hn : (eqB (nth (.int .i64) m i) 2 = true → 0 < i + 1 ∧ nth (.int .i64) m (i + 1 - 1) = 2) := fun h => by
      rw [hsub]; exact ⟨by omega, eqB_t.1 h⟩
    rw [ltB_t.2 hlt]
    simp only [ei, c0, c1, c2]
    simp only [need_def, appL_def, ifB_def, impB_def, selB_f, selB_t, selI_def, selX_def, notB_def, andB_def, orB_def, beqB_def, ltB_def, leB_def, eqB_def, seqB_def, eqI_def, eqL_def, eqS_def, eqD_def, eqT_def, imp_def, inI_def, nzI_def, geZ_def, ret_bool, ret_int, Bool.and_eq_true, Bool.or_eq_true, Bool.not_eq_true', Bool.not_eq_false', decide_eq_true_eq, decide_eq_false_iff_not, Bool.and_eq_false_iff, Bool.or_eq_false_iff, Int.not_lt, Int.not_le, true_and, and_true, implies_true, Bool.false_eq_true, Bool.true_eq_false, false_implies, forall_const, reduceCtorEq, if_true, if_false, true_implies, false_and, and_false, false_or, or_false, true_or, or_true, hMe]
    repeat' (first | with_reducible rfl | assumption | omega | (exact hInv _ _ _ ⟨by omega, fun h => hn (by simpa [eqB] using h)⟩) | refine ⟨?_, ?_⟩ | intro _)
  · rw [ltB_f.2 (Int.not_lt.1 hlt)]
    simp only [need_def, appL_def, ifB_def, impB_def, selB_f, selB_t, selI_def, selX_def, notB_def, andB_def, orB_def, beqB_def, ltB_def, leB_def, eqB_def, seqB_def, eqI_def, eqL_def, eqS_def, eqD_def, eqT_def, imp_def, inI_def, nzI_def, geZ_def, ret_bool, ret_int, Bool.and_eq_true, Bool.or_eq_true, Bool.not_eq_true', Bool.not_eq_false', decide_eq_true_eq, decide_eq_false_iff_not, Bool.and_eq_false_iff, Bool.or_eq_false_iff, Int.not_lt, Int.not_le, true_and, and_true, implies_true, Bool.false_eq_true, Bool.true_eq_false, false_implies, forall_const, reduceCtorEq, if_true, if_false, true_implies, false_and, and_false, false_or, or_false, true_or, or_true]
    exact hE0 _ _ _ trivial
theorem summ_past : SummOK Try.prog (loopAt Try.f5 9) S_past :=
  summN_ok (L := []) (fuel := 100) tabOK fsOK_alive (mkCall fsOK_alive specsOK_part fnsOK) (fun C => mkDraw fsOK_alive (mkCall fsOK_alive specsOK_part fnsOK) C) loopsOK_nil Inv_past M_past
    (fun x hp hw => by
      obtain ⟨rows, more, l, m, over, i, r⟩ := x
      have hp : i = 0 ∧ over = false ∧ pastOK m := hp
      have hw_rows := wfL_view hw 2 rfl
      have hw_more := wfL_view hw 3 rfl
      have hw_l := wfL_view hw 9 rfl
      have hw_m := wfL_view hw 11 rfl
      have hw_i := wfL_int hw 14 rfl
      obtain ⟨rfl, rfl, _⟩ := hp
      exact ⟨⟨rfl, rfl, rfl, rfl⟩, ⟨by omega, lenI_nn _⟩, fun h => by cases h⟩)
    (body_past_ok)
noncomputable def fns_LTracePast : Fns := (5, Try.f5, [(9, S_past)]) :: fns
theorem fn_LTracePast : FnOK Try.prog 5 Try.f5 [(9, S_past)] := fnOK_loops Try.func5 (fun vs w => Try.call5 vs w) (by kernel_rfl) fun k S h => by
  simp only [List.mem_cons, Prod.mk.injEq, List.not_mem_nil, or_false] at h
  obtain ⟨rfl, rfl⟩ := h
  exact summ_past
theorem fns_LTracePastOK : FnsOK Try.prog fns_LTracePast := fnsOK_cons fn_LTracePast fnsOK
theorem TracePast_eq (n : List (den NodeT)) (nm : List (den .str)) (rows more : List (den (.list (.int .i64)))) : acall tab fs_alive specs_part fns_LTracePast 100 20 5 [.view [] NodeT n, .view [] .str nm, .view [] (.list (.int .i64)) rows, .view [] (.list (.int .i64)) more] [] (fun o _ _ _ => o = .ret (.bool true)) =
  (ifB (selB (selB (notB (lightF n)) true (notB (rowsB rows nm))) true (notB (rowsB more nm))) (AOut.ret (AV.bool true) = AOut.ret (AV.bool true)) (need (midN n) (need
    (oneR (lenI rows)) (need (fitA (0 + lenI rows)) (need (fitA (lenI (appL (@List.nil (den (Ty.int IntKind.i64).list)) rows) + lenI more)) (need (midN n) (need (oneR
    (lenI (appL (appL (@List.nil (den (Ty.int IntKind.i64).list)) rows) more))) (ifB (selB (notB (eqB (rightE n) 0)) true (notB (eqB (rightE n) 0))) (AOut.ret (AV.bool
    (eqB (rightE n) (rightE n))) = AOut.ret (AV.bool true)) (eqD rows rows (eqD more more (eqD (allL n nm rows) (allL n nm rows) (eqD (allL n nm (appL (appL (@List.nil
    (den (Ty.int IntKind.i64).list)) rows) more)) (allL n nm (appL (appL (@List.nil (den (Ty.int IntKind.i64).list)) rows) more)) (eqL false false (eqI 0 0 (((0 : Int)
    = 0 ∧ false = false ∧ pastOK (allL n nm (appL (appL (@List.nil (den (Ty.int IntKind.i64).list)) rows) more))) ∧ ((∀ (y : X_past), (y.1 = rows ∧ y.2.1 = more ∧ y.2.2.1
    = allL n nm rows ∧ y.2.2.2.1 = allL n nm (appL (appL (@List.nil (den (Ty.int IntKind.i64).list)) rows) more)) ∧ True → need (impB (eqB (lenI y.2.2.2.1) (addW IntKind.i64
    (lenI y.1) (lenI y.2.1))) (leI 0 0)) (need (impB (eqB (lenI y.2.2.2.1) (addW IntKind.i64 (lenI y.1) (lenI y.2.1))) (leI 0 (selI (ltB (lenI y.2.2.1) (lenI y.2.2.2.1))
    (lenI y.2.2.1) (lenI y.2.2.2.1)))) (need (impB (eqB (lenI y.2.2.2.1) (addW IntKind.i64 (lenI y.1) (lenI y.2.1))) (leI (selI (ltB (lenI y.2.2.1) (lenI y.2.2.2.1))
    (lenI y.2.2.1) (lenI y.2.2.2.1)) (lenI y.2.2.2.1))) (AOut.ret (AV.bool (selB (eqB (lenI y.2.2.2.1) (addW IntKind.i64 (lenI y.1) (lenI y.2.1))) (sameI (subL y.2.2.2.1
    0 (selI (ltB (lenI y.2.2.1) (lenI y.2.2.2.1)) (lenI y.2.2.1) (lenI y.2.2.2.1))) y.2.2.1) false)) = AOut.ret (AV.bool true))))) ∧ True) ∧ ∀ (y : X_past), (y.1 = rows
    ∧ y.2.1 = more ∧ y.2.2.1 = allL n nm rows ∧ y.2.2.2.1 = allL n nm (appL (appL (@List.nil (den (Ty.int IntKind.i64).list)) rows) more)) ∧ False → AOut.ret (AV.bool
    y.2.2.2.2.2.2) = AOut.ret (AV.bool true)))))))))))))))) := by kernel_rfl
theorem TracePast_call : CallOK Try.prog (acall tab fs_alive specs_part fns_LTracePast 100 20) := mkCall fsOK_alive specsOK_part fns_LTracePastOK
theorem TracePast_go (n : List (den NodeT)) (nm : List (den .str)) (rows more : List (den (.list (.int .i64)))) : LawEv (acall tab fs_alive specs_part fns_LTracePast 100 20) 5 [.view [] NodeT n, .view [] .str nm, .view [] (.list (.int .i64)) rows, .view [] (.list (.int .i64)) more] := by
  refine ⟨?_⟩
  rw [TracePast_eq]
  rw [ifB_def]
  refine ⟨fun _ => rfl, fun hg => ?_⟩
  simp only [selB_t, notB_def, Bool.or_eq_false_iff, Bool.not_eq_false'] at hg
  obtain ⟨⟨g1, g2⟩, g3⟩ := hg
  have hln : lenI n ≤ 310 := by
    unfold lightF at g1
    simp only [Bool.and_eq_true, decide_eq_true_eq] at g1
    exact g1.1
  have mn : midN n := by unfold midN; omega
  unfold rowsB at g2 g3
  simp only [Bool.and_eq_true, decide_eq_true_eq] at g2 g3
  have r0 := lenI_nn rows
  have r1 := lenI_nn more
  have e0 : appL (appL (@List.nil (den (.list (.int .i64)))) rows) more = rows ++ more := rfl
  have e1 : lenI (appL (@List.nil (den (.list (.int .i64)))) rows) = lenI rows := rfl
  have e2 : lenI (rows ++ more) = lenI rows + lenI more := lenI_app _ _
  have o1 : oneR (lenI rows) := by unfold oneR; omega
  have o2 : oneR (lenI rows + lenI more) := by unfold oneR; omega
  have f1 : fitA (0 + lenI rows) := by unfold fitA; omega
  have f2 : fitA (lenI rows + lenI more) := by unfold fitA; omega
  have ea : addW .i64 (lenI rows) (lenI more) = lenI rows + lenI more := addW64 (by omega) (by omega)
  simp only [e0, e1, e2]
  by_cases e : rightE n = 0
  · have l1 := all_len (nm := nm) (rows := rows) e mn
    have l2 := all_len (nm := nm) (rows := rows ++ more) e mn
    have hP := past_ok (nm := nm) (rows := rows ++ more) e mn
    have hA := all_past (nm := nm) (rows := rows) (more := more) e mn
    rw [e2] at l2
    rw [eqB_t.2 e]
    simp only [need_def, appL_def, ifB_def, impB_def, selB_f, selB_t, selI_def, selX_def, notB_def, andB_def, orB_def, beqB_def, ltB_def, leB_def, eqB_def, seqB_def, eqI_def, eqL_def, eqS_def, eqD_def, eqT_def, imp_def, inI_def, nzI_def, geZ_def, ret_bool, ret_int, Bool.and_eq_true, Bool.or_eq_true, Bool.not_eq_true', Bool.not_eq_false', decide_eq_true_eq, decide_eq_false_iff_not, Bool.and_eq_false_iff, Bool.or_eq_false_iff, Int.not_lt, Int.not_le, true_and, and_true, implies_true, Bool.false_eq_true, Bool.true_eq_false, false_implies, forall_const, reduceCtorEq, if_true, if_false, true_implies, false_and, and_false, false_or, or_false, true_or, or_true, mn, o1, o2, f1, f2, hP]
    rintro ⟨rows', more', l', m', over', i', r'⟩ hk
    dsimp only at hk ⊢
    obtain ⟨rfl, rfl, rfl, rfl⟩ := hk
    rw [l1, l2, ea]
    have hmin : (if lenI rows' < lenI rows' + lenI more' then lenI rows' else lenI rows' + lenI more') = lenI rows' := by split <;> omega
    rw [hmin, hA]
    unfold leI sameI
    simp
    omega
  · rw [eqB_f.2 e, eqB_t.2 rfl]
    simp only [need_def, appL_def, ifB_def, impB_def, selB_f, selB_t, selI_def, selX_def, notB_def, andB_def, orB_def, beqB_def, ltB_def, leB_def, eqB_def, seqB_def, eqI_def, eqL_def, eqS_def, eqD_def, eqT_def, imp_def, inI_def, nzI_def, geZ_def, ret_bool, ret_int, Bool.and_eq_true, Bool.or_eq_true, Bool.not_eq_true', Bool.not_eq_false', decide_eq_true_eq, decide_eq_false_iff_not, Bool.and_eq_false_iff, Bool.or_eq_false_iff, Int.not_lt, Int.not_le, true_and, and_true, implies_true, Bool.false_eq_true, Bool.true_eq_false, false_implies, forall_const, reduceCtorEq, if_true, if_false, true_implies, false_and, and_false, false_or, or_false, true_or, or_true, mn, o1, o2, f1, f2]
theorem TracePast_ev : ∀ xs : DT [(.list (.prod (.int .i64) (.prod (.int .i64) (.prod (.int .i64) (.prod (.int .i64) (.prod (.list (.prod .str (.int .i64))) (.int .i64))))))), (.list .str), (.list (.list (.int .i64))), (.list (.list (.int .i64)))], wfs [(.list (.prod (.int .i64) (.prod (.int .i64) (.prod (.int .i64) (.prod (.int .i64) (.prod (.list (.prod .str (.int .i64))) (.int .i64))))))), (.list .str), (.list (.list (.int .i64))), (.list (.list (.int .i64)))] xs → LawEv (acall tab fs_alive specs_part fns_LTracePast 100 20) 5 (argsA tab #[28, 25, 30, 30].toList [(.list (.prod (.int .i64) (.prod (.int .i64) (.prod (.int .i64) (.prod (.int .i64) (.prod (.list (.prod .str (.int .i64))) (.int .i64))))))), (.list .str), (.list (.list (.int .i64))), (.list (.list (.int .i64)))] xs) := by
  rintro ⟨n, nm, rows, more, ⟨⟩⟩ hw
  exact TracePast_go n nm rows more



theorem TracePast_own : ownKnob Try.prog.godebug = none := by kernel_rfl
theorem TracePast_kids : Kids Try.prog (· < Try.prog.types.size) := kids_rows (by kernel_rfl) (by kernel_rfl)
theorem TracePast_full : ∀ t e, t < Try.prog.types.size → Try.prog.underlying t = some (.slice e) → 0 < Try.prog.cellsOf e := slices_full_of _ (by kernel_rfl)

theorem TracePast_lifted (os : Os) (started : os.Started) (H : Type) (enc : TypeId × Value → H) :
    ReturnsInHanded {} Try.checked os 5 .any (Rows.tracePastSpec.pre6 enc Try.prog Try.f5 Rows.tracePastRow.domain false) (Rows.tracePastSpec.post enc Try.prog Try.f5 false true false false) := by
  refine returnsInHanded_of_change_shaped (C := Try.checked) TracePast_own started (by kernel_rfl) Try.func5
    (ChangeSpec.witness6 (enc := enc) (C := Try.checked) false ⟨#[], #[(Value.slice none 0 0), (Value.slice none 0 0), (Value.slice none 0 0), (Value.slice none 0 0)], []⟩ 8 (by kernel_rfl) (by kernel_rfl) (by kernel_rfl) (by kernel_rfl)) ?_
  intro W base args ds gs before hval hW _ hwt _ _
  refine law_contract' (P := Try.prog) (fn := Try.f5) (s := Rows.tracePastSpec) (tb := 4) (Ts := [(.list (.prod (.int .i64) (.prod (.int .i64) (.prod (.int .i64) (.prod (.int .i64) (.prod (.list (.prod .str (.int .i64))) (.int .i64))))))), (.list .str), (.list (.list (.int .i64))), (.list (.list (.int .i64)))]) (call := (acall tab fs_alive specs_part fns_LTracePast 100 20)) (f := 5) tabOK TracePast_call TracePast_kids TracePast_full Try.params5 (by decide +kernel) rfl rfl Try.underlying4 ?_ (by kernel_rfl) TracePast_ev hval hW hwt
  intro ds hl
  match ds, hl with
  | [d0, d1, d2, d3], _ => rfl

theorem TracePast_holds : Rows.TracePastSaid :=
  OpenClaim.holds_of_wide 5 Try.f5 rfl rfl rfl rfl rfl rfl rfl ⟨rfl, rfl, rfl, rfl, rfl⟩ rfl rfl rfl rfl rfl (by kernel_rfl) Try.func5 (by kernel_rfl)
    (of_decide_eq_true (by kernel_rfl)) (by unfold Func.isWrapper; first | (rw [if_pos (by decide +kernel)]; kernel_rfl) | (rw [if_neg (by decide +kernel)]; exact ⟨rfl, rfl⟩))
    (fun os started H enc _ => TracePast_lifted os started H enc)

end Go.Proofs.Ytmdjpohmbkodeaa
