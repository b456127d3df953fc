/- What a formula means at each place. -/
import Derived.Test.YtmdjpohmbkodeaaSmTraceH
namespace Go.Proofs.Ytmdjpohmbkodeaa.Sx
open Go.RowKit
set_option maxRecDepth 100000
set_option maxHeartbeats 4000000
set_option linter.unusedVariables false
set_option linter.unusedSimpArgs false
def outG (over : Int) : Int → List Bool → List Int
  | _, [] => []
  | i, b :: l => (if over ≤ i then 2 else if b = true then 1 else 0) :: outG over (i + 1) l
def rightE (n : List (den NodeT)) : Int := if validF n = false ∧ isCoreF n = false then 31 else if rangesF n = false then 42 else 0
def outF (p : List Bool) (over : Int) : List Int := outG over 0 p
def allL (n : List (den NodeT)) (nm : List (List UInt8)) (rows : List (List Int)) : List Int := if rightE n = 0 then outG (ovL n nm rows (lenI rows)) 0 (evF n nm rows) else []
def midN (n : List (den NodeT)) : Prop := lenI n ≤ 100000
def rowsB (rows : List (List Int)) (nm : List (List UInt8)) : Bool := decide (lenI rows ≤ 60) && decide (lenI nm ≤ 30) && rows.all fun r => decide (lenI r ≤ 40)
def sameI (a b : List Int) : Bool := decide (a = b)
def holdsE (n : List (den NodeT)) (rows : List (List Int)) (i : Int) : Int := if rightE n ≠ 0 then rightE n else if i < 0 ∨ lenI rows ≤ i then 3 else 0
def holdsV (n : List (den NodeT)) (nm : List (List UInt8)) (rows : List (List Int)) (i : Int) : Int := if holdsE n rows i ≠ 0 then 0 else nth (.int .i64) (allL n nm (subL rows 0 (i + 1))) i
theorem right_node {op nn fr to num : Int} {ts : List (den TermT)} (h : rightF op nn fr to ts num = true) : nodeOK (op, nn, fr, to, ts, num) := by
  have hf := rightF_facts h
  simp only [rightF, aloneF, Bool.and_eq_true, Bool.or_eq_true, decide_eq_true_eq] at h
  obtain ⟨⟨⟨⟨⟨⟨⟨⟨⟨a1, a2⟩, a3⟩, a4⟩, a5⟩, b1⟩, b2⟩, b3⟩, b4⟩, b5⟩ := h
  refine ⟨?_, hf.2.1, hf.2.2, fun _ => b1⟩
  show lenI ts ≤ 1000
  rcases b5 with h | ⟨⟨⟨_, h⟩, _⟩, _⟩
  · rcases a4 with h2 | ⟨h2, _⟩
    · exact absurd h2 h
    · omega
  · omega
theorem right_whole {n : List (den NodeT)} (h : rightE n = 0) (hm : midN n) : partsB n = true ∧ evOK n := by
  unfold rightE at h
  by_cases h1 : validF n = true
  · have hv := okT_valid h1
    refine ⟨hv.1, fun x hx => ?_, hm⟩
    simp only [validF, Bool.and_eq_true, decide_eq_true_eq, Bool.not_eq_true', List.any_eq_false] at h1
    have := h1.1.1.2 x hx
    simp only [nrightF, notB, Bool.not_eq_true, Bool.not_eq_false'] at this
    exact right_node this
  · have h2 : isCoreF n = true := by
      by_cases h2 : isCoreF n = true
      · exact h2
      · rw [if_pos (by simp only [Bool.not_eq_true] at h1 h2; exact ⟨h1, h2⟩)] at h; omega
    simp only [isCoreF, Bool.and_eq_true, Bool.not_eq_true', List.any_eq_false] at h2
    refine ⟨h2.1, fun x hx => ?_, hm⟩
    have := h2.2 x hx
    simp only [idxFew_p, notB, Bool.not_eq_true, Bool.not_eq_false', fewF, Bool.and_eq_true] at this
    exact right_node this.2
theorem sub_all {n : List (den NodeT)} (h : partsB n = true) : subF n 0 = n := sub_eq (r := []) (Int.le_refl _) (by simp) h
theorem outG_len {over : Int} : ∀ (l : List Bool) (i : Int), lenI (outG over i l) = lenI l
  | [], i => rfl
  | b :: l, i => by simp only [outG]; rw [len_cons, len_cons, outG_len l]
theorem outG_nth {over : Int} : ∀ (l : List Bool) (i j : Int), 0 ≤ j → j < lenI l → nth (.int .i64) (outG over i l) j = if over ≤ i + j then 2 else if nth .bool l j = true then 1 else 0
  | [], i, j, h0, h1 => by rw [lenI_nil] at h1; omega
  | b :: l, i, j, h0, h1 => by
    rw [len_cons] at h1
    simp only [outG]
    by_cases hj : j = 0
    · subst hj; simp [nth, List.getD]
    · have ih := outG_nth (over := over) l (i + 1) (j - 1) (by omega) (by omega)
      have e1 : nth (.int .i64) ((if over ≤ i then (2 : Int) else if b = true then 1 else 0) :: outG over (i + 1) l) j = nth (.int .i64) (outG over (i + 1) l) (j - 1) := by
        unfold nth; rw [show j.toNat = (j - 1).toNat + 1 by omega]; rfl
      have e2 : nth .bool (b :: l) j = nth .bool l (j - 1) := by
        unfold nth; rw [show j.toNat = (j - 1).toNat + 1 by omega]; rfl
      rw [e1, e2, ih, show i + 1 + (j - 1) = i + j by omega]
theorem ov_nn {ts : List (den TermT)} {nm : List (List UInt8)} {rows : List (List Int)} {o : Int} (h : 0 ≤ o) : ∀ k : Nat, 0 ≤ ovG ts nm rows k o
  | 0 => h
  | k + 1 => by
    simp only [ovG]
    have := ov_nn (ts := ts) (nm := nm) (rows := rows) h k
    split <;> omega
theorem ovL_nn {nm : List (List UInt8)} {rows : List (List Int)} : ∀ (s : List (den NodeT)) (o : Int), 0 ≤ o → 0 ≤ ovL s nm rows o
  | [], o, h => h
  | x :: s, o, h => by
    show 0 ≤ ovL s nm rows (min o (mO nm rows x))
    refine ovL_nn s _ ?_
    have h1 : 0 ≤ mO nm rows x := by
      unfold mO ovF
      split
      · exact ov_nn (lenI_nn rows) _
      · exact lenI_nn rows
    omega
noncomputable def trightS : List AV → OV := fun args => match args with | [.view [] (.prod (.int .i64) (.prod (.int .i64) (.prod (.int .i64) (.prod (.int .i64) (.prod (.list (.prod .str (.int .i64))) (.int .i64)))))) n] => some ([smallL n], .int .i64 (rightE n)) | _ => none
theorem tright_eq (n : List (den NodeT)) : acall tab fs_fnAny specs_part fns 100 20 36 [.view [] NodeT n] [] (fun o mm _ _ => resN (.any) mm o = .ret (.int .i64 (rightE n))) =
  (need (impB (notB (validF n)) (smallL n)) (ifB (selB (notB (validF n)) (notB (isCoreF n)) false) (AOut.ret (AV.int IntKind.i64 31) = AOut.ret (AV.int IntKind.i64
    (rightE n))) (ifB (notB (rangesF n)) (AOut.ret (AV.int IntKind.i64 42) = AOut.ret (AV.int IntKind.i64 (rightE n))) (AOut.ret (AV.int IntKind.i64 0) = AOut.ret (AV.int
    IntKind.i64 (rightE n)))))) := by kernel_rfl
theorem tright_ok : SpecOK Try.prog 36 (fspecS (pureN [.sl NodeT] trightS)) := pureN_ok (mkCall fsOK_fnAny specsOK_part fnsOK) (.any) (fun vs w => Try.call36 vs w) fun args ps v h hp hw => by
  unfold trightS at h
  split at h
  · cases h
    rename_i n
    rw [tright_eq]
    refine ⟨?_⟩
    simp only [allP_cons, allP_nil, and_true] at hp
    simp only [wfAL, wfA, wfS, wfM, wfB, and_true, true_and, wfT_int, wfT_str, wfT_bool, wfT_prod] at hw
    unfold rightE
    cases h1 : validF n <;> cases h2 : isCoreF n <;> cases h3 : rangesF n <;> simp [selB_def, ifB_def, impB_def, need_def, notB_def, hp]
  · cases h
noncomputable def FF_tright : FSpec := pureN [.sl NodeT] trightS
theorem FFok_tright : SpecOK Try.prog 36 (fspecS FF_tright) := tright_ok
noncomputable def fs_tright : FS := (36, FF_tright) :: fs_fnAny
theorem fsOK_tright : FSOK Try.prog fs_tright := fsOK_cons FFok_tright fsOK_fnAny
abbrev X_allO := List (den .str) × List (den (.list (.int .i64))) × Int × List (den .bool) × Int × Int × List (den (.int .i64))
def sh_allO : X_allO → St := fun x => match x with | (nm, rows, over, p, n, i, out) => ⟨setL (rep .bad 60) [(33, .view [] .bool p), (34, .int .i64 n), (35, .int .i64 i), (9, .ptr 0 0), (12, .own 1)], [.var [.view [] .str nm, .view [] (.list (.int .i64)) rows, .int .i64 over], .row 3 (.int .i64) out []], [1, 2], [0, 1, 2]⟩
def sx_allO : AExit → X_allO → St := fun _ => sh_allO
def nx_allO (σ : St) : X_allO := (cV .str σ 0 0, cV (.list (.int .i64)) σ 0 1, cI σ 0 2, gV .bool σ 33, gI σ 34, gI σ 35, rV (.int .i64) σ 1)
def Pre_allO : X_allO → Prop := fun x => match x with | (nm, rows, over, p, n, i, out) => i = 0 ∧ n = lenI p ∧ out = [] ∧ lenI p ≤ 1000000
def E0_allO : X_allO → X_allO → Prop := fun x y => match x, y with | (nm0, rows0, over0, p0, n0, i0, out0), (nm, rows, over, p, n, i, out) => (nm = nm0 ∧ rows = rows0 ∧ over = over0 ∧ p = p0 ∧ n = n0) ∧ (out = outF p over)
def R_allO : X_allO → X_allO → Prop := fun x y => match x, y with | (nm0, rows0, over0, p0, n0, i0, out0), (nm, rows, over, p, n, i, out) => (nm = nm0 ∧ rows = rows0 ∧ over = over0 ∧ p = p0 ∧ n = n0) ∧ (False)
def D_allO : X_allO → LEnds X_allO := fun x => ⟨[(0, E0_allO x)], R_allO x⟩
noncomputable def S_allO : Summ := summN sh_allO sx_allO nx_allO Pre_allO D_allO
def Inv_allO : X_allO → X_allO → Prop := fun x y => match x, y with | (nm0, rows0, over0, p0, n0, i0, out0), (nm, rows, over, p, n, i, out) => (nm = nm0 ∧ rows = rows0 ∧ over = over0 ∧ p = p0 ∧ n = n0) ∧ ((0 ≤ i ∧ i ≤ n) ∧ lenI out = i ∧ out ++ outG over i (p.drop i.toNat) = outF p over)
def M_allO : X_allO → X_allO → Nat := fun x y => match x, y with | (nm0, rows0, over0, p0, n0, i0, out0), (nm, rows, over, p, n, i, out) => (n - i).toNat
theorem body_allO (Inv : X_allO → Prop) (meas : X_allO → Nat) (nn : Nat) (EE0 RR : X_allO → Prop) (nm : List (den .str)) (rows : List (den (.list (.int .i64)))) (over : Int) (p : List (den .bool)) (n : Int) (i : Int) (out : List (den (.int .i64))) : awp tab fs_tright (acall tab fs_tright specs_part fns 100 20) [] 100 (loopAt Try.f17 8) (bodyN sh_allO sx_allO nx_allO Inv meas nn ⟨[(0, EE0)], RR⟩) (sh_allO (nm, rows, over, p, n, i, out)) =
  (ifB (ltB i n) (need (inI i (lenI p)) (ifB (leB over i) (need (fitA (lenI out + 1)) (eqDr p (eqIr n (eqIr (addW IntKind.i64 i 1) (eqDr nm (eqDr rows (eqIr over (eqDr
    (appL out (2 :: @List.nil (den (Ty.int IntKind.i64)))) (Inv (nm, rows, over, p, n, addW IntKind.i64 i 1, appL out (2 :: @List.nil (den (Ty.int IntKind.i64)))) ∧
    meas (nm, rows, over, p, n, addW IntKind.i64 i 1, appL out (2 :: @List.nil (den (Ty.int IntKind.i64)))) < nn))))))))) (ifB (nth Ty.bool p i) (need (fitA (lenI out
    + 1)) (eqDr p (eqIr n (eqIr (addW IntKind.i64 i 1) (eqDr nm (eqDr rows (eqIr over (eqDr (appL out (1 :: @List.nil (den (Ty.int IntKind.i64)))) (Inv (nm, rows, over,
    p, n, addW IntKind.i64 i 1, appL out (1 :: @List.nil (den (Ty.int IntKind.i64)))) ∧ meas (nm, rows, over, p, n, addW IntKind.i64 i 1, appL out (1 :: @List.nil (den
    (Ty.int IntKind.i64)))) < nn))))))))) (need (fitA (lenI out + 1)) (eqDr p (eqIr n (eqIr (addW IntKind.i64 i 1) (eqDr nm (eqDr rows (eqIr over (eqDr (appL out (0
    :: @List.nil (den (Ty.int IntKind.i64)))) (Inv (nm, rows, over, p, n, addW IntKind.i64 i 1, appL out (0 :: @List.nil (den (Ty.int IntKind.i64)))) ∧ meas (nm, rows,
    over, p, n, addW IntKind.i64 i 1, appL out (0 :: @List.nil (den (Ty.int IntKind.i64)))) < nn)))))))))))) (eqDr p (eqIr n (eqIr i (eqDr nm (eqDr rows (eqIr over (eqDr
    out (EE0 (nm, rows, over, p, n, i, out)))))))))) := by kernel_rfl
theorem body_allO_ok : ∀ x y, Pre_allO x → Inv_allO x y → wfS (sh_allO y) → Hd (awp tab fs_tright (acall tab fs_tright specs_part fns 100 20) [] 100 (loopAt Try.f17 8) (bodyN sh_allO sx_allO nx_allO (Inv_allO x) (M_allO x) (M_allO x y) (D_allO x)) (sh_allO y)) := by
  rintro ⟨nm0, rows0, over0, p0, n0, i0, out0⟩ ⟨nm, rows, over, p, n, i, out⟩ hp hI hw
  obtain ⟨⟨rfl, rfl, rfl, rfl, rfl⟩, hI⟩ := hI
  have hw_nm := wfC_view hw 0 0 rfl
  have hw_rows := wfC_view hw 0 1 rfl
  have hw_over := wfC_int hw 0 2 rfl
  have hw_p := wfL_view hw 33 rfl
  have hw_n := wfL_int hw 34 rfl
  have hw_i := wfL_int hw 35 rfl
  have hw_out := wfR_row hw 1 rfl
  have hp : i0 = 0 ∧ n = lenI p ∧ out0 = [] ∧ lenI p ≤ 1000000 := hp
  unfold D_allO
  rw [body_allO]
  refine ⟨?_⟩
  have hInv : ∀ (i : Int) (out : List (den (.int .i64))), ((0 ≤ i ∧ i ≤ n) ∧ lenI out = i ∧ out ++ outG over i (p.drop i.toNat) = outF p over) → Inv_allO (nm, rows, over, p, n, i0, out0) (nm, rows, over, p, n, i, out) := fun _ _ h => ⟨⟨rfl, rfl, rfl, rfl, rfl⟩, h⟩
  generalize hIe : Inv_allO (nm, rows, over, p, n, i0, out0) = Inv at hInv ⊢
  have hMe : ∀ (i : Int) (out : List (den (.int .i64))), M_allO (nm, rows, over, p, n, i0, out0) (nm, rows, over, p, n, i, out) = (n - i).toNat := fun _ _ => rfl
  generalize M_allO (nm, rows, over, p, n, i0, out0) = Me at hMe ⊢
  have hE0 : ∀ (i : Int) (out : List (den (.int .i64))), (out = outF p over) → E0_allO (nm, rows, over, p, n, i0, out0) (nm, rows, over, p, n, i, out) := fun _ _ h => ⟨⟨rfl, rfl, rfl, rfl, rfl⟩, h⟩
  generalize E0_allO (nm, rows, over, p, n, i0, out0) = EE0 at hE0 ⊢
  have hR : ∀ (i : Int) (out : List (den (.int .i64))), (False) → R_allO (nm, rows, over, p, n, i0, out0) (nm, rows, over, p, n, i, out) := fun _ _ h => ⟨⟨rfl, rfl, rfl, rfl, rfl⟩, h⟩
  generalize R_allO (nm, rows, over, p, n, i0, out0) = RR at hR ⊢
  obtain ⟨hi, hl, hI⟩ := hI
  obtain ⟨p1, rfl, p3, p4⟩ := hp
  by_cases hlt : i < lenI p
  · have ei : addW .i64 i 1 = i + 1 := addW64 (by omega) (by omega)
    have hf : fitA (lenI out + 1) := by unfold fitA; omega
    rw [drop_nth (t := .bool) hi.1 hlt] at hI
    simp only [outG] at hI
    rw [ltB_t.2 hlt]
    by_cases ho : over ≤ i
    · rw [if_pos ho] at hI
      rw [leB_t.2 ho]
      simp only [simpsL, implies_true, forall_const, if_true, if_false, reduceCtorEq, hMe, ei, hf]
      repeat' (first | with_reducible rfl | assumption | omega | (exact hInv _ _ ⟨by omega, by rw [len_snoc]; omega, by rw [List.append_assoc]; exact hI⟩) | refine ⟨?_, ?_⟩ | intro _)
    · rw [if_neg ho] at hI
      rw [leB_f.2 (Int.not_le.1 ho)]
      cases hb : nth .bool p i
      · rw [hb] at hI
        simp only [Bool.false_eq_true, if_false] at hI
        simp only [simpsL, implies_true, forall_const, if_true, if_false, reduceCtorEq, hMe, ei, hf]
        repeat' (first | with_reducible rfl | assumption | omega | (exact hInv _ _ ⟨by omega, by rw [len_snoc]; omega, by rw [List.append_assoc]; exact hI⟩) | refine ⟨?_, ?_⟩ | intro _)
      · rw [hb] at hI
        simp only [if_true] at hI
        simp only [simpsL, implies_true, forall_const, if_true, if_false, reduceCtorEq, hMe, ei, hf]
        repeat' (first | with_reducible rfl | assumption | omega | (exact hInv _ _ ⟨by omega, by rw [len_snoc]; omega, by rw [List.append_assoc]; exact hI⟩) | refine ⟨?_, ?_⟩ | intro _)
  · rw [drop_all (by omega)] at hI
    simp only [outG, List.append_nil] at hI
    rw [ltB_f.2 (Int.not_lt.1 hlt)]
    simp only [simpsL, implies_true, forall_const, if_true, if_false, reduceCtorEq]
    exact hE0 _ _ hI
theorem summ_allO : SummOK Try.prog (loopAt Try.f17 8) S_allO :=
  summN_ok (L := []) (fuel := 100) tabOK fsOK_tright (mkCall fsOK_tright specsOK_part fnsOK) (fun C => mkDraw fsOK_tright (mkCall fsOK_tright specsOK_part fnsOK) C) loopsOK_nil Inv_allO M_allO
    (fun x hp hw => by
      obtain ⟨nm, rows, over, p, n, i, out⟩ := x
      have hp : i = 0 ∧ n = lenI p ∧ out = [] ∧ lenI p ≤ 1000000 := hp
      have hw_nm := wfC_view hw 0 0 rfl
      have hw_rows := wfC_view hw 0 1 rfl
      have hw_over := wfC_int hw 0 2 rfl
      have hw_p := wfL_view hw 33 rfl
      have hw_n := wfL_int hw 34 rfl
      have hw_i := wfL_int hw 35 rfl
      have hw_out := wfR_row hw 1 rfl
      obtain ⟨rfl, rfl, rfl, h⟩ := hp
      exact ⟨⟨rfl, rfl, rfl, rfl, rfl⟩, ⟨by omega, lenI_nn _⟩, rfl, rfl⟩)
    (body_allO_ok)
noncomputable def fns_All : Fns := (17, Try.f17, [(8, S_allO)]) :: fns
theorem fn_All : FnOK Try.prog 17 Try.f17 [(8, S_allO)] := fnOK_loops Try.func17 (fun vs w => Try.call17 vs w) (by kernel_rfl) fun k S h => by
  simp only [List.mem_cons, Prod.mk.injEq, List.not_mem_nil, or_false] at h
  obtain ⟨rfl, rfl⟩ := h
  exact summ_allO
theorem fns_AllOK : FnsOK Try.prog fns_All := fnsOK_cons fn_All fnsOK
noncomputable def AllS : List AV → OV := fun args => match args with | [.view [] (.prod (.int .i64) (.prod (.int .i64) (.prod (.int .i64) (.prod (.int .i64) (.prod (.list (.prod .str (.int .i64))) (.int .i64)))))) n, .view [] .str nm, .view [] (.list (.int .i64)) rows] => some ([midN n, oneR (lenI rows)], .tup [.view [] (.int .i64) (allL n nm rows), .int .i64 (rightE n)]) | _ => none
theorem All_eq (n : List (den NodeT)) (nm : List (List UInt8)) (rows : List (List Int)) : acall tab fs_tright specs_part fns_All 100 20 17 [.view [] NodeT n, .view [] .str nm, .view [] (.list (.int .i64)) rows] [] (fun o mm _ _ => resN (.ag [.sl (.int .i64), .any]) mm o = .ret (.tup [.view [] (.int .i64) (allL n nm rows), .int .i64 (rightE n)])) =
  (need (smallL n) (ifB (notB (eqB (rightE n) 0)) (AOut.ret (AV.tup (AV.view [] (Ty.int IntKind.i64) (@List.nil (den (Ty.int IntKind.i64))) :: AV.int IntKind.i64 (rightE
    n) :: [])) = AOut.ret (AV.tup (AV.view [] (Ty.int IntKind.i64) (allL n nm rows) :: AV.int IntKind.i64 (rightE n) :: []))) (need (oneR (lenI rows)) (need (partOK
    n 0 (lenI rows) rows) (eqDr (evF (subF n 0) nm rows) (eqIr (lenI (evF (subF n 0) nm rows)) (eqIr 0 (eqDr nm (eqDr rows (eqIr (ovL (subF n 0) nm rows (lenI rows))
    (eqDr (@List.nil (den (Ty.int IntKind.i64))) (((0 : Int) = 0 ∧ lenI (evF (subF n 0) nm rows) = lenI (evF (subF n 0) nm rows) ∧ @List.nil (den (Ty.int IntKind.i64))
    = @List.nil (den (Ty.int IntKind.i64)) ∧ lenI (evF (subF n 0) nm rows) ≤ 1000000) ∧ ((∀ (y : X_allO), (y.1 = nm ∧ y.2.1 = rows ∧ y.2.2.1 = ovL (subF n 0) nm rows
    (lenI rows) ∧ y.2.2.2.1 = evF (subF n 0) nm rows ∧ y.2.2.2.2.1 = lenI (evF (subF n 0) nm rows)) ∧ y.2.2.2.2.2.2 = outF y.2.2.2.1 y.2.2.1 → AOut.ret (AV.tup (AV.view
    [] (Ty.int IntKind.i64) y.2.2.2.2.2.2 :: AV.int IntKind.i64 0 :: [])) = AOut.ret (AV.tup (AV.view [] (Ty.int IntKind.i64) (allL n nm rows) :: AV.int IntKind.i64
    (rightE n) :: []))) ∧ True) ∧ ∀ (y : X_allO), (y.1 = nm ∧ y.2.1 = rows ∧ y.2.2.1 = ovL (subF n 0) nm rows (lenI rows) ∧ y.2.2.2.1 = evF (subF n 0) nm rows ∧ y.2.2.2.2.1
    = lenI (evF (subF n 0) nm rows)) ∧ False → AOut.ret (AV.tup (AV.bad :: AV.bad :: [])) = AOut.ret (AV.tup (AV.view [] (Ty.int IntKind.i64) (allL n nm rows) :: AV.int
    IntKind.i64 (rightE n) :: [])))))))))))))) := by kernel_rfl
theorem All_ok : SpecOK Try.prog 17 (fspecS (pureN [.sl NodeT, .sl .str, .sl (.list (.int .i64))] AllS)) := pureN_ok (mkCall fsOK_tright specsOK_part fns_AllOK) (.ag [.sl (.int .i64), .any]) (fun vs w => Try.call17 vs w) fun args ps v h hp hw => by
  unfold AllS at h
  split at h
  · cases h
    rename_i n nm rows
    rw [All_eq]
    refine ⟨?_⟩
    simp only [allP_cons, allP_nil, and_true] at hp
    simp only [wfAL, wfA, wfS, wfM, wfB, and_true, true_and, wfT_int, wfT_str, wfT_bool, wfT_prod] at hw
    obtain ⟨hm, hr⟩ := hp
    have hs : smallL n := by unfold midN at hm; unfold smallL; omega
    have hr' := hr
    unfold oneR at hr'
    by_cases h0 : rightE n = 0
    · have hA : allL n nm rows = outF (evF n nm rows) (ovL n nm rows (lenI rows)) := by unfold allL outF; rw [if_pos h0]
      have hB := right_whole h0 hm
      have hsub := sub_all hB.1
      have hP : partOK n 0 (lenI rows) rows := ⟨Int.le_refl _, by rw [hsub]; exact hB.1, hB.2, Int.le_refl _⟩
      have hl := evF_len (nm := nm) (rows := rows) hB.1
      rw [hA, h0]
      simp only [hsub]
      simp only [simpsL, implies_true, forall_const, if_true, if_false, reduceCtorEq, hs, hr, hP, h0, hl, hr']
      repeat' (first | with_reducible rfl | assumption | omega | (rintro ⟨nm', rows', over', p', n', i', out'⟩ ⟨hk, hx⟩; dsimp only at hk hx ⊢; obtain ⟨rfl, rfl, rfl, rfl, rfl⟩ := hk; subst hx; rfl) | refine ⟨?_, ?_⟩ | (intro hx; exact (hx trivial).elim) | intro _)
    · have hA : allL n nm rows = [] := by unfold allL; rw [if_neg h0]
      rw [hA]
      simp only [simpsL, implies_true, forall_const, if_true, if_false, reduceCtorEq, hs, h0]
      repeat' (first | with_reducible rfl | assumption | omega | refine ⟨?_, ?_⟩ | intro _)
  · cases h
noncomputable def FF_All : FSpec := pureN [.sl NodeT, .sl .str, .sl (.list (.int .i64))] AllS
theorem FFok_All : SpecOK Try.prog 17 (fspecS FF_All) := All_ok
noncomputable def fs_All : FS := (17, FF_All) :: fs_tright
theorem fsOK_All : FSOK Try.prog fs_All := fsOK_cons FFok_All fsOK_tright
abbrev X_sameIL := List (den (.int .i64)) × List (den (.int .i64)) × Int × Bool
def sh_sameIL : X_sameIL → St := fun x => match x with | (a, b, i, r) => ⟨setL (rep .bad 27) [(0, .view [] (.int .i64) a), (1, .view [] (.int .i64) b), (5, .int .i64 i)], [], [], []⟩
def shr_sameIL : X_sameIL → St := fun x => match x with | (a, b, i, r) => ⟨setL (rep .bad 27) [(0, .view [] (.int .i64) a), (1, .view [] (.int .i64) b), (5, .int .i64 i), (4, .bool r)], [], [], []⟩
def sx_sameIL : AExit → X_sameIL → St := fun e => match e with | .ret => shr_sameIL | _ => sh_sameIL
def nx_sameIL (σ : St) : X_sameIL := (gV (.int .i64) σ 0, gV (.int .i64) σ 1, gI σ 5, gB σ 4)
def Pre_sameIL : X_sameIL → Prop := fun x => match x with | (a, b, i, r) => i = 0 ∧ lenI a = lenI b
def E0_sameIL : X_sameIL → X_sameIL → Prop := fun x y => match x, y with | (a0, b0, i0, r0), (a, b, i, r) => (a = a0 ∧ b = b0) ∧ (a = b)
def R_sameIL : X_sameIL → X_sameIL → Prop := fun x y => match x, y with | (a0, b0, i0, r0), (a, b, i, r) => (a = a0 ∧ b = b0) ∧ (r = false ∧ a ≠ b)
def D_sameIL : X_sameIL → LEnds X_sameIL := fun x => ⟨[(0, E0_sameIL x)], R_sameIL x⟩
noncomputable def S_sameIL : Summ := summN sh_sameIL sx_sameIL nx_sameIL Pre_sameIL D_sameIL
def Inv_sameIL : X_sameIL → X_sameIL → Prop := fun x y => match x, y with | (a0, b0, i0, r0), (a, b, i, r) => (a = a0 ∧ b = b0) ∧ ((0 ≤ i ∧ i ≤ lenI a) ∧ ∀ j, 0 ≤ j → j < i → nth (.int .i64) a j = nth (.int .i64) b j)
def M_sameIL : X_sameIL → X_sameIL → Nat := fun x y => match x, y with | (a0, b0, i0, r0), (a, b, i, r) => (lenI a - i).toNat
theorem body_sameIL (Inv : X_sameIL → Prop) (meas : X_sameIL → Nat) (nn : Nat) (EE0 RR : X_sameIL → Prop) (a : List (den (.int .i64))) (b : List (den (.int .i64))) (i : Int) (r : Bool) : awp tab fs_All (acall tab fs_All specs_part fns 100 20) [] 100 (loopAt Try.f18 4) (bodyN sh_sameIL sx_sameIL nx_sameIL Inv meas nn ⟨[(0, EE0)], RR⟩) (sh_sameIL (a, b, i, r)) =
  (ifB (ltB i (lenI a)) (need (inI i (lenI a)) (need (inI i (lenI b)) (ifB (notB (eqB (nth (Ty.int IntKind.i64) a i) (nth (Ty.int IntKind.i64) b i))) (eqDr a (eqDr
    b (eqLr false (eqIr i (RR (a, b, i, false)))))) (eqDr a (eqDr b (eqIr (addW IntKind.i64 i 1) (Inv (a, b, addW IntKind.i64 i 1, false) ∧ meas (a, b, addW IntKind.i64
    i 1, false) < nn))))))) (eqDr a (eqDr b (eqIr i (EE0 (a, b, i, false)))))) := by kernel_rfl
theorem body_sameIL_ok : ∀ x y, Pre_sameIL x → Inv_sameIL x y → wfS (sh_sameIL y) → Hd (awp tab fs_All (acall tab fs_All specs_part fns 100 20) [] 100 (loopAt Try.f18 4) (bodyN sh_sameIL sx_sameIL nx_sameIL (Inv_sameIL x) (M_sameIL x) (M_sameIL x y) (D_sameIL x)) (sh_sameIL y)) := by
  rintro ⟨a0, b0, i0, r0⟩ ⟨a, b, i, r⟩ hp hI hw
  obtain ⟨⟨rfl, rfl⟩, hI⟩ := hI
  have hw_a := wfL_view hw 0 rfl
  have hw_b := wfL_view hw 1 rfl
  have hw_i := wfL_int hw 5 rfl
  have hp : i0 = 0 ∧ lenI a = lenI b := hp
  unfold D_sameIL
  rw [body_sameIL]
  refine ⟨?_⟩
  have hInv : ∀ (i : Int) (r : Bool), ((0 ≤ i ∧ i ≤ lenI a) ∧ ∀ j, 0 ≤ j → j < i → nth (.int .i64) a j = nth (.int .i64) b j) → Inv_sameIL (a, b, i0, r0) (a, b, i, r) := fun _ _ h => ⟨⟨rfl, rfl⟩, h⟩
  generalize hIe : Inv_sameIL (a, b, i0, r0) = Inv at hInv ⊢
  have hMe : ∀ (i : Int) (r : Bool), M_sameIL (a, b, i0, r0) (a, b, i, r) = (lenI a - i).toNat := fun _ _ => rfl
  generalize M_sameIL (a, b, i0, r0) = Me at hMe ⊢
  have hE0 : ∀ (i : Int) (r : Bool), (a = b) → E0_sameIL (a, b, i0, r0) (a, b, i, r) := fun _ _ h => ⟨⟨rfl, rfl⟩, h⟩
  generalize E0_sameIL (a, b, i0, r0) = EE0 at hE0 ⊢
  have hR : ∀ (i : Int) (r : Bool), (r = false ∧ a ≠ b) → R_sameIL (a, b, i0, r0) (a, b, i, r) := fun _ _ h => ⟨⟨rfl, rfl⟩, h⟩
  generalize R_sameIL (a, b, i0, r0) = RR at hR ⊢
  obtain ⟨hi, hI⟩ := hI
  obtain ⟨p1, p2⟩ := hp
  by_cases hlt : i < lenI a
  · have hlen := wfT_len hw_a
    have ei : addW .i64 i 1 = i + 1 := addW64 (by omega) (by omega)
    rw [ltB_t.2 hlt]
    by_cases e : nth (.int .i64) a i = nth (.int .i64) b i
    · rw [eqB_t.2 e]
      have hn : ∀ j, 0 ≤ j → j < i + 1 → nth (.int .i64) a j = nth (.int .i64) b j := fun j j0 j1 => by
        by_cases hj : j = i
        · rw [hj]; exact e
        · exact hI j j0 (by omega)
      simp only [simpsL, implies_true, forall_const, if_true, if_false, reduceCtorEq, hMe, ei]
      repeat' (first | with_reducible rfl | assumption | omega | (exact hInv _ _ ⟨by omega, hn⟩) | refine ⟨?_, ?_⟩ | intro _)
    · rw [eqB_f.2 e]
      simp only [simpsL, implies_true, forall_const, if_true, if_false, reduceCtorEq, hMe, ei]
      repeat' (first | with_reducible rfl | assumption | omega | (exact hR _ _ ⟨rfl, fun h => e (by rw [h])⟩) | refine ⟨?_, ?_⟩ | intro _)
  · rw [ltB_f.2 (Int.not_lt.1 hlt)]
    simp only [simpsL, implies_true, forall_const, if_true, if_false, reduceCtorEq]
    exact hE0 _ _ (list_ext (t := .int .i64) p2 fun j h0 h1 => hI j h0 (by omega))
theorem summ_sameIL : SummOK Try.prog (loopAt Try.f18 4) S_sameIL :=
  summN_ok (L := []) (fuel := 100) tabOK fsOK_All (mkCall fsOK_All specsOK_part fnsOK) (fun C => mkDraw fsOK_All (mkCall fsOK_All specsOK_part fnsOK) C) loopsOK_nil Inv_sameIL M_sameIL
    (fun x hp hw => by
      obtain ⟨a, b, i, r⟩ := x
      have hp : i = 0 ∧ lenI a = lenI b := hp
      have hw_a := wfL_view hw 0 rfl
      have hw_b := wfL_view hw 1 rfl
      have hw_i := wfL_int hw 5 rfl
      obtain ⟨rfl, h⟩ := hp
      exact ⟨⟨rfl, rfl⟩, ⟨by omega, lenI_nn _⟩, fun j _ _ => by omega⟩)
    (body_sameIL_ok)
noncomputable def fns_sameI : Fns := (18, Try.f18, [(4, S_sameIL)]) :: fns
theorem fn_sameI : FnOK Try.prog 18 Try.f18 [(4, S_sameIL)] := fnOK_loops Try.func18 (fun vs w => Try.call18 vs w) (by kernel_rfl) fun k S h => by
  simp only [List.mem_cons, Prod.mk.injEq, List.not_mem_nil, or_false] at h
  obtain ⟨rfl, rfl⟩ := h
  exact summ_sameIL
theorem fns_sameIOK : FnsOK Try.prog fns_sameI := fnsOK_cons fn_sameI fnsOK
noncomputable def sameIS : List AV → OV := fun args => match args with | [.view [] (.int .i64) a, .view [] (.int .i64) b] => some ([], .bool (sameI a b)) | _ => none
theorem sameI_eq (a b : List Int) : acall tab fs_All specs_part fns_sameI 100 20 18 [.view [] (.int .i64) a, .view [] (.int .i64) b] [] (fun o mm _ _ => resN (.any) mm o = .ret (.bool (sameI a b))) =
  (ifB (notB (eqB (lenI a) (lenI b))) (AOut.ret (AV.bool false) = AOut.ret (AV.bool (sameI a b))) (eqDr a (eqDr b (eqIr 0 (((0 : Int) = 0 ∧ lenI a = lenI b) ∧ ((∀ (y
    : X_sameIL), (y.1 = a ∧ y.2.1 = b) ∧ y.1 = y.2.1 → AOut.ret (AV.bool true) = AOut.ret (AV.bool (sameI a b))) ∧ True) ∧ ∀ (y : X_sameIL), (y.1 = a ∧ y.2.1 = b) ∧
    y.2.2.2 = false ∧ (y.1 = y.2.1 → False) → AOut.ret (AV.bool y.2.2.2) = AOut.ret (AV.bool (sameI a b))))))) := by kernel_rfl
theorem sameI_ok : SpecOK Try.prog 18 (fspecS (pureN [.sl (.int .i64), .sl (.int .i64)] sameIS)) := pureN_ok (mkCall fsOK_All specsOK_part fns_sameIOK) (.any) (fun vs w => Try.call18 vs w) fun args ps v h hp hw => by
  unfold sameIS at h
  split at h
  · cases h
    rename_i a b
    rw [sameI_eq]
    refine ⟨?_⟩
    simp only [allP_cons, allP_nil, and_true] at hp
    simp only [wfAL, wfA, wfS, wfM, wfB, and_true, true_and, wfT_int, wfT_str, wfT_bool, wfT_prod] at hw
    by_cases hl : lenI a = lenI b
    · have hs' : a ≠ b → sameI a b = false := fun h => by unfold sameI; exact decide_eq_false h
      have hs2 : a = b → sameI a b = true := fun h => by unfold sameI; exact decide_eq_true h
      rw [eqB_t.2 hl]
      simp only [simpsL, implies_true, forall_const, if_true, if_false, reduceCtorEq, hl]
      repeat' (first | with_reducible rfl | assumption | omega | trivial | (rintro ⟨a', b', i', r'⟩ ⟨hk, hx⟩; dsimp only at hk hx ⊢; obtain ⟨rfl, rfl⟩ := hk; subst hx; simp [sameI]; done) | (rintro ⟨a', b', i', r'⟩ ⟨hk, hr, hx⟩; dsimp only at hk hr hx ⊢; obtain ⟨rfl, rfl⟩ := hk; rw [hr, hs' hx]) | refine ⟨?_, ?_⟩ | intro _)
    · rw [eqB_f.2 hl]
      have hs : sameI a b = false := by unfold sameI; simp; intro h; exact hl (by rw [h])
      rw [hs]
      simp only [simpsL, implies_true, forall_const, if_true, if_false, reduceCtorEq]
  · cases h
noncomputable def FF_sameI : FSpec := pureN [.sl (.int .i64), .sl (.int .i64)] sameIS
theorem FFok_sameI : SpecOK Try.prog 18 (fspecS FF_sameI) := sameI_ok
noncomputable def fs_sameI : FS := (18, FF_sameI) :: fs_All
theorem fsOK_sameI : FSOK Try.prog fs_sameI := fsOK_cons FFok_sameI fsOK_All
abbrev X_rowsL := List (den (.list (.int .i64))) × Int × Bool
def sh_rowsL : X_rowsL → St := fun x => match x with | (rows, i, r) => ⟨setL (rep .bad 26) [(0, .view [] (.list (.int .i64)) rows), (5, .int .i64 i)], [], [], []⟩
def shr_rowsL : X_rowsL → St := fun x => match x with | (rows, i, r) => ⟨setL (rep .bad 26) [(0, .view [] (.list (.int .i64)) rows), (5, .int .i64 i), (4, .bool r)], [], [], []⟩
def sx_rowsL : AExit → X_rowsL → St := fun e => match e with | .ret => shr_rowsL | _ => sh_rowsL
def nx_rowsL (σ : St) : X_rowsL := (gV (.list (.int .i64)) σ 0, gI σ 5, gB σ 4)
def Pre_rowsL : X_rowsL → Prop := fun x => match x with | (rows, i, r) => i = 0
def E0_rowsL : X_rowsL → X_rowsL → Prop := fun x y => match x, y with | (rows0, i0, r0), (rows, i, r) => (rows = rows0) ∧ (rows.all (fun r => decide (lenI r ≤ 40)) = true)
def R_rowsL : X_rowsL → X_rowsL → Prop := fun x y => match x, y with | (rows0, i0, r0), (rows, i, r) => (rows = rows0) ∧ (r = false ∧ rows.all (fun r => decide (lenI r ≤ 40)) = false)
def D_rowsL : X_rowsL → LEnds X_rowsL := fun x => ⟨[(0, E0_rowsL x)], R_rowsL x⟩
noncomputable def S_rowsL : Summ := summN sh_rowsL sx_rowsL nx_rowsL Pre_rowsL D_rowsL
def Inv_rowsL : X_rowsL → X_rowsL → Prop := fun x y => match x, y with | (rows0, i0, r0), (rows, i, r) => (rows = rows0) ∧ ((0 ≤ i ∧ i ≤ lenI rows) ∧ (rows.drop i.toNat).all (fun r => decide (lenI r ≤ 40)) = rows.all (fun r => decide (lenI r ≤ 40)))
def M_rowsL : X_rowsL → X_rowsL → Nat := fun x y => match x, y with | (rows0, i0, r0), (rows, i, r) => (lenI rows - i).toNat
theorem body_rowsL (Inv : X_rowsL → Prop) (meas : X_rowsL → Nat) (nn : Nat) (EE0 RR : X_rowsL → Prop) (rows : List (den (.list (.int .i64)))) (i : Int) (r : Bool) : awp tab fs_sameI (acall tab fs_sameI specs_part fns 100 20) [] 100 (loopAt Try.f12 4) (bodyN sh_rowsL sx_rowsL nx_rowsL Inv meas nn ⟨[(0, EE0)], RR⟩) (sh_rowsL (rows, i, r)) =
  (ifB (ltB i (lenI rows)) (need (inI i (lenI rows)) (ifB (ltB 40 (lenI (nth (Ty.int IntKind.i64).list rows i))) (eqDr rows (eqLr false (eqIr i (RR (rows, i, false)))))
    (eqDr rows (eqIr (addW IntKind.i64 i 1) (Inv (rows, addW IntKind.i64 i 1, false) ∧ meas (rows, addW IntKind.i64 i 1, false) < nn))))) (eqDr rows (eqIr i (EE0 (rows,
    i, false))))) := by kernel_rfl
theorem body_rowsL_ok : ∀ x y, Pre_rowsL x → Inv_rowsL x y → wfS (sh_rowsL y) → Hd (awp tab fs_sameI (acall tab fs_sameI specs_part fns 100 20) [] 100 (loopAt Try.f12 4) (bodyN sh_rowsL sx_rowsL nx_rowsL (Inv_rowsL x) (M_rowsL x) (M_rowsL x y) (D_rowsL x)) (sh_rowsL y)) := by
  rintro ⟨rows0, i0, r0⟩ ⟨rows, i, r⟩ hp hI hw
  obtain ⟨rfl, hI⟩ := hI
  have hw_rows := wfL_view hw 0 rfl
  have hw_i := wfL_int hw 5 rfl
  have hp : i0 = 0 := hp
  unfold D_rowsL
  rw [body_rowsL]
  refine ⟨?_⟩
  have hInv : ∀ (i : Int) (r : Bool), ((0 ≤ i ∧ i ≤ lenI rows) ∧ (rows.drop i.toNat).all (fun r => decide (lenI r ≤ 40)) = rows.all (fun r => decide (lenI r ≤ 40))) → Inv_rowsL (rows, i0, r0) (rows, i, r) := fun _ _ h => ⟨rfl, h⟩
  generalize hIe : Inv_rowsL (rows, i0, r0) = Inv at hInv ⊢
  have hMe : ∀ (i : Int) (r : Bool), M_rowsL (rows, i0, r0) (rows, i, r) = (lenI rows - i).toNat := fun _ _ => rfl
  generalize M_rowsL (rows, i0, r0) = Me at hMe ⊢
  have hE0 : ∀ (i : Int) (r : Bool), (rows.all (fun r => decide (lenI r ≤ 40)) = true) → E0_rowsL (rows, i0, r0) (rows, i, r) := fun _ _ h => ⟨rfl, h⟩
  generalize E0_rowsL (rows, i0, r0) = EE0 at hE0 ⊢
  have hR : ∀ (i : Int) (r : Bool), (r = false ∧ rows.all (fun r => decide (lenI r ≤ 40)) = false) → R_rowsL (rows, i0, r0) (rows, i, r) := fun _ _ h => ⟨rfl, h⟩
  generalize R_rowsL (rows, i0, r0) = RR at hR ⊢
  obtain ⟨hi, hI⟩ := hI
  by_cases hlt : i < lenI rows
  · have hlen := wfT_len hw_rows
    have ei : addW .i64 i 1 = i + 1 := addW64 (by omega) (by omega)
    rw [drop_nth (t := .list (.int .i64)) hi.1 hlt, List.all_cons] at hI
    rw [ltB_t.2 hlt]
    by_cases e : 40 < lenI (nth (.list (.int .i64)) rows i)
    · rw [ltB_t.2 e]
      have hd : decide (lenI (nth (.list (.int .i64)) rows i) ≤ 40) = false := decide_eq_false (by omega)
      rw [hd, Bool.false_and] at hI
      simp only [simpsL, implies_true, forall_const, if_true, if_false, reduceCtorEq, hMe, ei]
      repeat' (first | with_reducible rfl | assumption | omega | (exact hR _ _ ⟨rfl, hI.symm⟩) | refine ⟨?_, ?_⟩ | intro _)
    · rw [ltB_f.2 (Int.not_lt.1 e)]
      have hd : decide (lenI (nth (.list (.int .i64)) rows i) ≤ 40) = true := decide_eq_true (by omega)
      rw [hd, Bool.true_and] at hI
      simp only [simpsL, implies_true, forall_const, if_true, if_false, reduceCtorEq, hMe, ei]
      repeat' (first | with_reducible rfl | assumption | omega | (exact hInv _ _ ⟨by omega, hI⟩) | refine ⟨?_, ?_⟩ | intro _)
  · rw [drop_all (by omega)] at hI
    rw [ltB_f.2 (Int.not_lt.1 hlt)]
    simp only [simpsL, implies_true, forall_const, if_true, if_false, reduceCtorEq]
    exact hE0 _ _ hI.symm
theorem summ_rowsL : SummOK Try.prog (loopAt Try.f12 4) S_rowsL :=
  summN_ok (L := []) (fuel := 100) tabOK fsOK_sameI (mkCall fsOK_sameI specsOK_part fnsOK) (fun C => mkDraw fsOK_sameI (mkCall fsOK_sameI specsOK_part fnsOK) C) loopsOK_nil Inv_rowsL M_rowsL
    (fun x hp hw => by
      obtain ⟨rows, i, r⟩ := x
      have hp : i = 0 := hp
      have hw_rows := wfL_view hw 0 rfl
      have hw_i := wfL_int hw 5 rfl
      subst hp
      exact ⟨rfl, ⟨by omega, lenI_nn _⟩, rfl⟩)
    (body_rowsL_ok)
noncomputable def fns_rowsB : Fns := (12, Try.f12, [(4, S_rowsL)]) :: fns
theorem fn_rowsB : FnOK Try.prog 12 Try.f12 [(4, S_rowsL)] := fnOK_loops Try.func12 (fun vs w => Try.call12 vs w) (by kernel_rfl) fun k S h => by
  simp only [List.mem_cons, Prod.mk.injEq, List.not_mem_nil, or_false] at h
  obtain ⟨rfl, rfl⟩ := h
  exact summ_rowsL
theorem fns_rowsBOK : FnsOK Try.prog fns_rowsB := fnsOK_cons fn_rowsB fnsOK
noncomputable def rowsBS : List AV → OV := fun args => match args with | [.view [] (.list (.int .i64)) rows, .view [] .str nm] => some ([], .bool (rowsB rows nm)) | _ => none
theorem rowsB_eq (rows : List (List Int)) (nm : List (List UInt8)) : acall tab fs_sameI specs_part fns_rowsB 100 20 12 [.view [] (.list (.int .i64)) rows, .view [] .str nm] [] (fun o mm _ _ => resN (.any) mm o = .ret (.bool (rowsB rows nm))) =
  (ifB (selB (ltB 60 (lenI rows)) true (ltB 30 (lenI nm))) (AOut.ret (AV.bool false) = AOut.ret (AV.bool (rowsB rows nm))) (eqDr rows (eqIr 0 ((0 : Int) = 0 ∧ ((∀ (y
    : X_rowsL), y.1 = rows ∧ (y.1.all fun r => decide (lenI r ≤ 40)) = true → AOut.ret (AV.bool true) = AOut.ret (AV.bool (rowsB rows nm))) ∧ True) ∧ ∀ (y : X_rowsL),
    y.1 = rows ∧ y.2.2 = false ∧ (y.1.all fun r => decide (lenI r ≤ 40)) = false → AOut.ret (AV.bool y.2.2) = AOut.ret (AV.bool (rowsB rows nm)))))) := by kernel_rfl
theorem rowsB_ok : SpecOK Try.prog 12 (fspecS (pureN [.sl (.list (.int .i64)), .sl .str] rowsBS)) := pureN_ok (mkCall fsOK_sameI specsOK_part fns_rowsBOK) (.any) (fun vs w => Try.call12 vs w) fun args ps v h hp hw => by
  unfold rowsBS at h
  split at h
  · cases h
    rename_i rows nm
    rw [rowsB_eq]
    refine ⟨?_⟩
    simp only [allP_cons, allP_nil, and_true] at hp
    simp only [wfAL, wfA, wfS, wfM, wfB, and_true, true_and, wfT_int, wfT_str, wfT_bool, wfT_prod] at hw
    unfold rowsB
    by_cases h1 : lenI rows ≤ 60
    · by_cases h2 : lenI nm ≤ 30
      · rw [ltB_f.2 h1, ltB_f.2 h2, decide_eq_true h1, decide_eq_true h2]
        simp only [simpsL, implies_true, forall_const, if_true, if_false, reduceCtorEq]
        simp only [Bool.true_and]
        repeat' (first | with_reducible rfl | assumption | omega | trivial | (rintro ⟨a', i', r'⟩ ⟨hk, hx⟩; dsimp only at hk hx ⊢; subst hk; rw [hx]; done) | (rintro ⟨a', i', r'⟩ ⟨hk, hr, hx⟩; dsimp only at hk hr hx ⊢; subst hk; rw [hr, hx]; done) | refine ⟨?_, ?_⟩ | intro _)
      · rw [ltB_f.2 h1, ltB_t.2 (Int.not_le.1 h2), decide_eq_true h1, decide_eq_false h2]
        simp only [simpsL, implies_true, forall_const, if_true, if_false, reduceCtorEq]
        simp
    · rw [ltB_t.2 (Int.not_le.1 h1), decide_eq_false h1]
      simp only [simpsL, implies_true, forall_const, if_true, if_false, reduceCtorEq]
      simp
  · cases h
noncomputable def FF_rowsB : FSpec := pureN [.sl (.list (.int .i64)), .sl .str] rowsBS
theorem FFok_rowsB : SpecOK Try.prog 12 (fspecS FF_rowsB) := rowsB_ok
noncomputable def fs_rowsB : FS := (12, FF_rowsB) :: fs_sameI
theorem fsOK_rowsB : FSOK Try.prog fs_rowsB := fsOK_cons FFok_rowsB fsOK_sameI
noncomputable def holdsS : List AV → OV := fun args => match args with | [.view [] (.prod (.int .i64) (.prod (.int .i64) (.prod (.int .i64) (.prod (.int .i64) (.prod (.list (.prod .str (.int .i64))) (.int .i64)))))) n, .view [] .str nm, .view [] (.list (.int .i64)) rows, .int .i64 i] => some ([midN n, oneR (lenI rows)], .tup [.int .i64 (holdsV n nm rows i), .int .i64 (holdsE n rows i)]) | _ => none
theorem holds_eq (n : List (den NodeT)) (nm : List (List UInt8)) (rows : List (List Int)) (i : Int) : acall tab fs_rowsB specs_part fns 100 20 22 [.view [] NodeT n, .view [] .str nm, .view [] (.list (.int .i64)) rows, .int .i64 i] [] (fun o mm _ _ => resN (.any) mm o = .ret (.tup [.int .i64 (holdsV n nm rows i), .int .i64 (holdsE n rows i)])) =
  (need (smallL n) (ifB (notB (eqB (rightE n) 0)) (AOut.ret (AV.tup (AV.int IntKind.i64 0 :: AV.int IntKind.i64 (rightE n) :: [])) = AOut.ret (AV.tup (AV.int IntKind.i64
    (holdsV n nm rows i) :: AV.int IntKind.i64 (holdsE n rows i) :: []))) (ifB (selB (ltB i 0) true (leB (lenI rows) i)) (AOut.ret (AV.tup (AV.int IntKind.i64 0 :: AV.int
    IntKind.i64 3 :: [])) = AOut.ret (AV.tup (AV.int IntKind.i64 (holdsV n nm rows i) :: AV.int IntKind.i64 (holdsE n rows i) :: []))) (need (leI 0 0) (need (leI 0 (addW
    IntKind.i64 i 1)) (need (leI (addW IntKind.i64 i 1) (lenI rows)) (need (midN n) (need (oneR (lenI (subL rows 0 (addW IntKind.i64 i 1)))) (ifB (notB (eqB (rightE
    n) 0)) (AOut.ret (AV.tup (AV.int IntKind.i64 0 :: AV.int IntKind.i64 (rightE n) :: [])) = AOut.ret (AV.tup (AV.int IntKind.i64 (holdsV n nm rows i) :: AV.int IntKind.i64
    (holdsE n rows i) :: []))) (need (inI i (lenI (allL n nm (subL rows 0 (addW IntKind.i64 i 1))))) (AOut.ret (AV.tup (AV.int IntKind.i64 (nth (Ty.int IntKind.i64)
    (allL n nm (subL rows 0 (addW IntKind.i64 i 1))) i) :: AV.int IntKind.i64 0 :: [])) = AOut.ret (AV.tup (AV.int IntKind.i64 (holdsV n nm rows i) :: AV.int IntKind.i64
    (holdsE n rows i) :: []))))))))))))) := by kernel_rfl
theorem holds_ok : SpecOK Try.prog 22 (fspecS (pureN [.sl NodeT, .sl .str, .sl (.list (.int .i64)), .any] holdsS)) := pureN_ok (mkCall fsOK_rowsB specsOK_part fnsOK) (.any) (fun vs w => Try.call22 vs w) fun args ps v h hp hw => by
  unfold holdsS at h
  split at h
  · cases h
    rename_i n nm rows i
    rw [holds_eq]
    refine ⟨?_⟩
    simp only [allP_cons, allP_nil, and_true] at hp
    simp only [wfAL, wfA, wfS, wfM, wfB, and_true, true_and, wfT_int, wfT_str, wfT_bool, wfT_prod] at hw
    obtain ⟨hm, hr⟩ := hp
    have hs : smallL n := by unfold midN at hm; unfold smallL; omega
    have hr' := hr
    unfold oneR at hr'
    by_cases h0 : rightE n = 0
    · by_cases h1 : i < 0 ∨ lenI rows ≤ i
      · have hE : holdsE n rows i = 3 := by unfold holdsE; rw [if_neg (by omega), if_pos h1]
        have hV : holdsV n nm rows i = 0 := by unfold holdsV; rw [if_pos (by rw [hE]; decide)]
        rw [hE, hV]
        by_cases h2 : i < 0
        · rw [ltB_t.2 h2]
          simp only [simpsL, implies_true, forall_const, if_true, if_false, reduceCtorEq, hs, h0]
          repeat' (first | with_reducible rfl | assumption | omega | refine ⟨?_, ?_⟩ | (intro hx; exact (hx trivial).elim) | intro _)
        · rw [ltB_f.2 (Int.not_lt.1 h2), leB_t.2 (by omega : lenI rows ≤ i)]
          simp only [simpsL, implies_true, forall_const, if_true, if_false, reduceCtorEq, hs, h0]
          repeat' (first | with_reducible rfl | assumption | omega | refine ⟨?_, ?_⟩ | (intro hx; exact (hx trivial).elim) | intro _)
      · have hc : ¬ i < 0 := by omega
        have hd : ¬ lenI rows ≤ i := by omega
        have hE : holdsE n rows i = 0 := by unfold holdsE; rw [if_neg (by omega), if_neg h1]
        have hV : holdsV n nm rows i = nth (.int .i64) (allL n nm (subL rows 0 (i + 1))) i := by unfold holdsV; rw [if_neg (by rw [hE]; decide)]
        have ei : addW .i64 i 1 = i + 1 := addW64 (by omega) (by omega)
        have hsl : lenI (subL rows 0 (i + 1)) = i + 1 := by unfold subL lenI at *; simp; omega
        have hr2 : oneR (lenI (subL rows 0 (i + 1))) := by unfold oneR; omega
        have hB := right_whole h0 hm
        have hal : lenI (allL n nm (subL rows 0 (i + 1))) = i + 1 := by
          unfold allL; rw [if_pos h0, outG_len, evF_len hB.1, hsl]
        rw [hE, hV]
        rw [ltB_f.2 (Int.not_lt.1 hc), leB_f.2 (Int.not_le.1 hd)]
        simp only [ei, leI]
        simp only [simpsL, implies_true, forall_const, if_true, if_false, reduceCtorEq, hs, h0, hm, hr2, hal]
        repeat' (first | with_reducible rfl | assumption | omega | refine ⟨?_, ?_⟩ | (intro hx; exact (hx trivial).elim) | intro _)
    · have hE : holdsE n rows i = rightE n := by unfold holdsE; rw [if_pos h0]
      have hV : holdsV n nm rows i = 0 := by unfold holdsV; rw [if_pos (by rw [hE]; exact h0)]
      rw [hE, hV]
      simp only [simpsL, implies_true, forall_const, if_true, if_false, reduceCtorEq, hs, h0]
      repeat' (first | with_reducible rfl | assumption | omega | refine ⟨?_, ?_⟩ | (intro hx; exact (hx trivial).elim) | intro _)
  · cases h
noncomputable def FF_holds : FSpec := pureN [.sl NodeT, .sl .str, .sl (.list (.int .i64)), .any] holdsS
theorem FFok_holds : SpecOK Try.prog 22 (fspecS FF_holds) := holds_ok
noncomputable def fs_holds : FS := (22, FF_holds) :: fs_rowsB
theorem fsOK_holds : FSOK Try.prog fs_holds := fsOK_cons FFok_holds fsOK_rowsB
end Go.Proofs.Ytmdjpohmbkodeaa.Sx

