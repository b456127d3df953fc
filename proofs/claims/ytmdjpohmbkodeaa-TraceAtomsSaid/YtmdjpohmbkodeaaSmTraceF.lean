/- Parts' meanings: since, atoms, not, any as calls. -/
import Derived.Test.YtmdjpohmbkodeaaSmTraceE
namespace Go.Proofs.Ytmdjpohmbkodeaa.Sx
open Go.RowKit
set_option maxRecDepth 100000
set_option maxHeartbeats 4000000
set_option linter.unusedVariables false
set_option linter.unusedSimpArgs false
noncomputable def fns_fillSince_95 : Fns := (95, Try.f95, [(8, S_sinceI)]) :: fns
theorem fn_fillSince_95 : FnOK Try.prog 95 Try.f95 [(8, S_sinceI)] := fnOK_loops Try.func95 (fun vs w => Try.call95 vs w) (by kernel_rfl) fun k S h => by
  simp only [List.mem_cons, Prod.mk.injEq, List.not_mem_nil, or_false] at h
  obtain ⟨rfl, rfl⟩ := h
  exact summ_sinceI
theorem fns_fillSince_95OK : FnsOK Try.prog fns_fillSince_95 := fnsOK_cons fn_fillSince_95 fnsOK
noncomputable def fns_fillSince : Fns := (79, Try.f79, [(3, S_fillSince)]) :: fns_fillSince_95
theorem fn_fillSince : FnOK Try.prog 79 Try.f79 [(3, S_fillSince)] := fnOK_loops Try.func79 (fun vs w => Try.call79 vs w) (by kernel_rfl) fun k S h => by
  simp only [List.mem_cons, Prod.mk.injEq, List.not_mem_nil, or_false] at h
  obtain ⟨rfl, rfl⟩ := h
  exact summ_fillSince
theorem fns_fillSinceOK : FnsOK Try.prog fns_fillSince := fnsOK_cons fn_fillSince fns_fillSince_95OK
noncomputable def fillSinceS : List AV → List Blk → AK → Prop := fun args m K => match args, m with | [.ptr 0 0, .fn (.func 95) [] [.ptr 1 0, .ptr 2 0, .ptr 3 0, .ptr 4 0, .ptr 5 0]], [.var [.view [] .str nm, .view [] (.list (.int .i64)) rows, .int .i64 over], .var [.view [] .bool p], .var [.int .i64 0], .var [.int .i64 to], .var [.int .i64 fr], .var [.view [] .bool q]] => need (oneR (lenI rows)) (need (lenI p = lenI rows) (need (lenI q = lenI rows) (need (geZ fr) (∀ held : Int, K (.ret (.view [] .bool (sinceV (lenI rows) fr to p q))) [.var [.view [] .str nm, .view [] (.list (.int .i64)) rows, .int .i64 over], .var [.view [] .bool p], .var [.int .i64 held], .var [.int .i64 to], .var [.int .i64 fr], .var [.view [] .bool q]] [] [2])))) | _, _ => False
theorem fillSince_eq (K : AK) (nm : List (List UInt8)) (rows : List (List Int)) (over to fr : Int) (p q : List Bool) : acall tab fs_fnAny specs_copiedS fns_fillSince 100 20 79 [.ptr 0 0, .fn (.func 95) [] [.ptr 1 0, .ptr 2 0, .ptr 3 0, .ptr 4 0, .ptr 5 0]] [.var [.view [] .str nm, .view [] (.list (.int .i64)) rows, .int .i64 over], .var [.view [] .bool p], .var [.int .i64 0], .var [.int .i64 to], .var [.int .i64 fr], .var [.view [] .bool q]] (frzK (mlen [.var [.view [] .str nm, .view [] (.list (.int .i64)) rows, .int .i64 over], .var [.view [] .bool p], .var [.int .i64 0], .var [.int .i64 to], .var [.int .i64 fr], .var [.view [] .bool q]]) (.any) [] [2] K) =
  (eqI (lenI rows) (lenI rows) (need (geZ (lenI rows)) (need (fitA (lenI rows)) (need (AV.fn (Fn.func 95) (@List.nil AV) (AV.ptr 1 0 :: AV.ptr 2 0 :: AV.ptr 3 0 ::
    AV.ptr 4 0 :: AV.ptr 5 0 :: @List.nil AV) = AV.fn (Fn.func 95) (@List.nil AV) (AV.ptr 1 0 :: AV.ptr 2 0 :: AV.ptr 3 0 :: AV.ptr 4 0 :: AV.ptr 5 0 :: @List.nil AV))
    (eqI (lenI (repI (lenI rows) false)) (lenI (repI (lenI rows) false)) (eqI 0 0 (eqD nm nm (eqD rows rows (eqI over over (eqD p p (eqI 0 0 (eqI to to (eqI fr fr (eqD
    q q (eqD (repI (lenI rows) false) (repI (lenI rows) false) (((0 : Int) = 0 ∧ lenI (repI (lenI rows) false) = lenI rows ∧ lenI (repI (lenI rows) false) = lenI rows
    ∧ (0 : Int) = 0 ∧ lenI p = lenI rows ∧ lenI q = lenI rows ∧ 0 ≤ fr ∧ lenI rows ≤ 1000000) ∧ ((∀ (y : X_fillSince), (y.1 = lenI (repI (lenI rows) false) ∧ y.2.2.1
    = nm ∧ y.2.2.2.1 = rows ∧ y.2.2.2.2.1 = over ∧ y.2.2.2.2.2.1 = p ∧ y.2.2.2.2.2.2.2.1 = to ∧ y.2.2.2.2.2.2.2.2.1 = fr ∧ y.2.2.2.2.2.2.2.2.2.1 = q) ∧ y.2.2.2.2.2.2.2.2.2.2
    = sinceV (lenI y.2.2.2.1) y.2.2.2.2.2.2.2.2.1 y.2.2.2.2.2.2.2.1 y.2.2.2.2.2.1 y.2.2.2.2.2.2.2.2.2.1 → K (AOut.ret (AV.view (@List.nil Nat) Ty.bool y.2.2.2.2.2.2.2.2.2.2))
    (Blk.var (AV.view (@List.nil Nat) Ty.str y.2.2.1 :: AV.view (@List.nil Nat) (Ty.int IntKind.i64).list y.2.2.2.1 :: AV.int IntKind.i64 y.2.2.2.2.1 :: @List.nil AV)
    :: Blk.var (AV.view (@List.nil Nat) Ty.bool y.2.2.2.2.2.1 :: @List.nil AV) :: Blk.var (AV.int IntKind.i64 y.2.2.2.2.2.2.1 :: @List.nil AV) :: Blk.var (AV.int IntKind.i64
    y.2.2.2.2.2.2.2.1 :: @List.nil AV) :: Blk.var (AV.int IntKind.i64 y.2.2.2.2.2.2.2.2.1 :: @List.nil AV) :: Blk.var (AV.view (@List.nil Nat) Ty.bool y.2.2.2.2.2.2.2.2.2.1
    :: @List.nil AV) :: @List.nil Blk) (@List.nil Nat) (2 :: @List.nil Nat)) ∧ True) ∧ ∀ (y : X_fillSince), (y.1 = lenI (repI (lenI rows) false) ∧ y.2.2.1 = nm ∧ y.2.2.2.1
    = rows ∧ y.2.2.2.2.1 = over ∧ y.2.2.2.2.2.1 = p ∧ y.2.2.2.2.2.2.2.1 = to ∧ y.2.2.2.2.2.2.2.2.1 = fr ∧ y.2.2.2.2.2.2.2.2.2.1 = q) ∧ False → K (AOut.ret AV.bad) (Blk.var
    (AV.view (@List.nil Nat) Ty.str y.2.2.1 :: AV.view (@List.nil Nat) (Ty.int IntKind.i64).list y.2.2.2.1 :: AV.int IntKind.i64 y.2.2.2.2.1 :: @List.nil AV) :: Blk.var
    (AV.view (@List.nil Nat) Ty.bool y.2.2.2.2.2.1 :: @List.nil AV) :: Blk.var (AV.int IntKind.i64 y.2.2.2.2.2.2.1 :: @List.nil AV) :: Blk.var (AV.int IntKind.i64 y.2.2.2.2.2.2.2.1
    :: @List.nil AV) :: Blk.var (AV.int IntKind.i64 y.2.2.2.2.2.2.2.2.1 :: @List.nil AV) :: Blk.var (AV.view (@List.nil Nat) Ty.bool y.2.2.2.2.2.2.2.2.2.1 :: @List.nil
    AV) :: @List.nil Blk) (@List.nil Nat) (2 :: @List.nil Nat))))))))))))))))) := by kernel_rfl
theorem fillSince_ok : SpecOK Try.prog 79 fillSinceS := specOKF_of (mkCall fsOK_fnAny specsOK_copiedS fns_fillSinceOK) (.any) [] [2] (fun vs w => Try.call79 vs w) fun args m K h hw hwm => by
  unfold fillSinceS at h
  split at h
  · rename_i nm rows over to fr p q
    rw [fillSince_eq]
    refine ⟨?_⟩
    simp only [wfAL, wfA, wfS, wfM, wfB, and_true, true_and, wfT_int, wfT_str, wfT_bool, wfT_prod] at hw hwm
    obtain ⟨h1, h2, h3, h4, h⟩ := h
    have hr := lenI_nn rows
    have h10 := h1
    unfold oneR at h10
    unfold geZ at h4
    have f1 : fitA (lenI rows) := by unfold fitA; omega
    have f2 : lenI (repI (lenI rows) false) = lenI rows := by unfold repI lenI; simp
    simp only [simpsL, implies_true, forall_const, if_true, if_false, reduceCtorEq, f1, f2, h2, h3, h4, h10]
    refine ⟨hr, fun y hy => ?_⟩
    obtain ⟨n, i, nm, rows, over, p, held, to, fr, q, xs⟩ := y
    dsimp only at hy ⊢
    obtain ⟨⟨rfl, rfl, rfl, rfl, rfl, rfl, rfl, rfl⟩, rfl⟩ := hy
    exact h _
  · exact h.elim
noncomputable def SP_fillSince : List AV → List Blk → AK → Prop := (altS 95 (frameS fillSinceS) SP_fillPrev)
theorem SPok_fillSince : SpecOK Try.prog 79 SP_fillSince := (altS_ok (frame_ok fillSince_ok) SPok_fillPrev)
noncomputable def specs_fillSince : Specs := (79, SP_fillSince) :: specs_fillPrev
theorem specsOK_fillSince : SpecsOK Try.prog specs_fillSince := specsOK_cons SPok_fillSince specsOK_fillPrev
noncomputable def sinceS : List AV → List Blk → AK → Prop := fun args m K => match args, m with | [.ptr 0 0, .int .i64 fr, .int .i64 to, .view [] .bool p, .view [] .bool q], [.var [.view [] .str nm, .view [] (.list (.int .i64)) rows, .int .i64 over]] => need (oneR (lenI rows)) (need (lenI p = lenI rows) (need (lenI q = lenI rows) (need (geZ fr) (K (.ret (.view [] .bool (sinceV (lenI rows) fr to p q))) [.var [.view [] .str nm, .view [] (.list (.int .i64)) rows, .int .i64 over]] [] [])))) | _, _ => False
theorem since_eq (K : AK) (nm : List (List UInt8)) (rows : List (List Int)) (over to fr : Int) (p q : List Bool) : acall tab fs_fnAny specs_fillSince fns 100 20 85 [.ptr 0 0, .int .i64 fr, .int .i64 to, .view [] .bool p, .view [] .bool q] [.var [.view [] .str nm, .view [] (.list (.int .i64)) rows, .int .i64 over]] (frzK (mlen [.var [.view [] .str nm, .view [] (.list (.int .i64)) rows, .int .i64 over]]) (.any) [] [] K) =
  (need (oneR (lenI rows)) (need (lenI p = lenI rows) (need (lenI q = lenI rows) (need (geZ fr) (∀ (held : Int), K (AOut.ret (AV.view (@List.nil Nat) Ty.bool (sinceV
    (lenI rows) fr to p q))) (Blk.var (AV.view (@List.nil Nat) Ty.str nm :: AV.view (@List.nil Nat) (Ty.int IntKind.i64).list rows :: AV.int IntKind.i64 over :: @List.nil
    AV) :: @List.nil Blk) (@List.nil Nat) (@List.nil Nat)))))) := by kernel_rfl
theorem since_ok : SpecOK Try.prog 85 sinceS := specOKF_of (mkCall fsOK_fnAny specsOK_fillSince fnsOK) (.any) [] [] (fun vs w => Try.call85 vs w) fun args m K h hw hwm => by
  unfold sinceS at h
  split at h
  · rename_i nm rows over to fr p q
    rw [since_eq]
    refine ⟨?_⟩
    simp only [wfAL, wfA, wfS, wfM, wfB, and_true, true_and, wfT_int, wfT_str, wfT_bool, wfT_prod] at hw hwm
    obtain ⟨h1, h2, h3, h4, h⟩ := h
    unfold geZ at h4
    simp only [simpsL, implies_true, forall_const, if_true, if_false, reduceCtorEq, h1, h2, h3, h4]
    exact h
  · exact h.elim
noncomputable def SP_since : List AV → List Blk → AK → Prop := (specV [.any, .any, .any, .sl .bool, .sl .bool] (frameS sinceS))
theorem SPok_since : SpecOK Try.prog 85 SP_since := (specV_ok (frame_ok since_ok))
noncomputable def specs_since : Specs := (85, SP_since) :: specs_fillSince
theorem specsOK_since : SpecsOK Try.prog specs_since := specsOK_cons SPok_since specsOK_fillSince
noncomputable def tnotS : List AV → List Blk → AK → Prop := fun args m K => match args, m with | [.ptr 0 0, .view [] .bool p], [.var [.view [] .str nm, .view [] (.list (.int .i64)) rows, .int .i64 over]] => need (oneR (lenI rows)) (need (lenI p = lenI rows) (K (.ret (.view [] .bool (notV (lenI rows) p))) [.var [.view [] .str nm, .view [] (.list (.int .i64)) rows, .int .i64 over]] [] [])) | _, _ => False
theorem tnot_eq (K : AK) (nm : List (List UInt8)) (rows : List (List Int)) (over : Int) (p : List Bool) : acall tab fs_fnAny specs_since fns 100 20 82 [.ptr 0 0, .view [] .bool p] [.var [.view [] .str nm, .view [] (.list (.int .i64)) rows, .int .i64 over]] (frzK (mlen [.var [.view [] .str nm, .view [] (.list (.int .i64)) rows, .int .i64 over]]) (.any) [] [] K) =
  (need (oneR (lenI rows)) (need (lenI p = lenI rows) (K (AOut.ret (AV.view (@List.nil Nat) Ty.bool (notV (lenI rows) p))) (Blk.var (AV.view (@List.nil Nat) Ty.str
    nm :: AV.view (@List.nil Nat) (Ty.int IntKind.i64).list rows :: AV.int IntKind.i64 over :: @List.nil AV) :: @List.nil Blk) (@List.nil Nat) (@List.nil Nat)))) := by kernel_rfl
theorem tnot_ok : SpecOK Try.prog 82 tnotS := specOKF_of (mkCall fsOK_fnAny specsOK_since fnsOK) (.any) [] [] (fun vs w => Try.call82 vs w) fun args m K h hw hwm => by
  unfold tnotS at h
  split at h
  · rename_i nm rows over p
    rw [tnot_eq]
    refine ⟨?_⟩
    simp only [wfAL, wfA, wfS, wfM, wfB, and_true, true_and, wfT_int, wfT_str, wfT_bool, wfT_prod] at hw hwm
    obtain ⟨h1, h2, h⟩ := h
    simp only [simpsL, implies_true, forall_const, if_true, if_false, reduceCtorEq, h1, h2]
    exact h
  · exact h.elim
noncomputable def SP_tnot : List AV → List Blk → AK → Prop := (specV [.any, .sl .bool] (frameS tnotS))
theorem SPok_tnot : SpecOK Try.prog 82 SP_tnot := (specV_ok (frame_ok tnot_ok))
noncomputable def specs_tnot : Specs := (82, SP_tnot) :: specs_since
theorem specsOK_tnot : SpecsOK Try.prog specs_tnot := specsOK_cons SPok_tnot specsOK_since
noncomputable def tanyS : List AV → List Blk → AK → Prop := fun args m K => match args, m with | [.ptr 0 0, .own 1], [.var [.view [] .str nm, .view [] (.list (.int .i64)) rows, .int .i64 over], .row 76 (.list .bool) l []] => need (oneR (lenI rows)) (need (sameR l (lenI rows)) (K (.ret (.view [] .bool (anyV (lenI rows) l))) [.var [.view [] .str nm, .view [] (.list (.int .i64)) rows, .int .i64 over], .row 76 (.list .bool) l []] [] [])) | _, _ => False
theorem tany_eq (K : AK) (nm : List (List UInt8)) (rows : List (List Int)) (over : Int) (l : List (List Bool)) : acall tab fs_fnAny specs_tnot fns 100 20 83 [.ptr 0 0, .own 1] [.var [.view [] .str nm, .view [] (.list (.int .i64)) rows, .int .i64 over], .row 76 (.list .bool) l []] (frzK (mlen [.var [.view [] .str nm, .view [] (.list (.int .i64)) rows, .int .i64 over], .row 76 (.list .bool) l []]) (.any) [] [] K) =
  (need (oneR (lenI rows)) (need (sameR l (lenI rows)) (K (AOut.ret (AV.view (@List.nil Nat) Ty.bool (anyV (lenI rows) l))) (Blk.var (AV.view (@List.nil Nat) Ty.str
    nm :: AV.view (@List.nil Nat) (Ty.int IntKind.i64).list rows :: AV.int IntKind.i64 over :: @List.nil AV) :: Blk.row 76 Ty.bool.list l (@List.nil Nat) :: @List.nil
    Blk) (@List.nil Nat) (@List.nil Nat)))) := by kernel_rfl
theorem tany_ok : SpecOK Try.prog 83 tanyS := specOKF_of (mkCall fsOK_fnAny specsOK_tnot fnsOK) (.any) [] [] (fun vs w => Try.call83 vs w) fun args m K h hw hwm => by
  unfold tanyS at h
  split at h
  · rename_i nm rows over l
    rw [tany_eq]
    refine ⟨?_⟩
    simp only [wfAL, wfA, wfS, wfM, wfB, and_true, true_and, wfT_int, wfT_str, wfT_bool, wfT_prod] at hw hwm
    obtain ⟨h1, h2, h⟩ := h
    simp only [simpsL, implies_true, forall_const, if_true, if_false, reduceCtorEq, h1, h2]
    exact h
  · exact h.elim
noncomputable def SP_tany : List AV → List Blk → AK → Prop := (frameS tanyS)
theorem SPok_tany : SpecOK Try.prog 83 SP_tany := (frame_ok tany_ok)
noncomputable def specs_tany : Specs := (83, SP_tany) :: specs_tnot
theorem specsOK_tany : SpecsOK Try.prog specs_tany := specsOK_cons SPok_tany specsOK_tnot
def ovG (ts : List (den TermT)) (nm : List (List UInt8)) (rows : List (List Int)) : Nat → Int → Int
  | 0, o => o
  | k + 1, o => if atomO ts nm (nth (.list (.int .i64)) rows k) = true then min (ovG ts nm rows k o) k else ovG ts nm rows k o
def ovF (ts : List (den TermT)) (nm : List (List UInt8)) (rows : List (List Int)) (over : Int) : Int := ovG ts nm rows (lenI rows).toNat over
def atomV (ts : List (den TermT)) (num : Int) (nm : List (List UInt8)) (rows : List (List Int)) : List Bool := tabB (lenI rows) fun i => atomH ts num nm (nth (.list (.int .i64)) rows i)
theorem ov_step {ts : List (den TermT)} {nm : List (List UInt8)} {rows : List (List Int)} {i o : Int} (h : 0 ≤ i) : ovG ts nm rows (i + 1).toNat o = if atomO ts nm (nth (.list (.int .i64)) rows i) = true then min (ovG ts nm rows i.toNat o) i else ovG ts nm rows i.toNat o := by
  rw [show (i + 1).toNat = i.toNat + 1 by omega]
  simp only [ovG]
  rw [show ((i.toNat : Nat) : Int) = i by omega]
abbrev X_fillAtom := Int × Int × List (den .str) × List (den (.list (.int .i64))) × Int × Int × Int × Int × Int × List (den TermT) × Int × List (den .bool)
def sh_fillAtom : X_fillAtom → St := fun x => match x with | (n, i, nm, rows, over, op, na, fr, to, ts, num, xs) => ⟨setL (rep .bad 26) [(14, .int .i64 n), (15, .int .i64 i), (1, .fn (.func 90) [] [.ptr 1 0, .ptr 2 0]), (5, .own 3)], [.var [.view [] .str nm, .view [] (.list (.int .i64)) rows, .int .i64 over], .var [.int .i64 op, .int .i64 na, .int .i64 fr, .int .i64 to, .view [] TermT ts, .int .i64 num], .var [.ptr 0 0], .row 4 .bool xs []], [3], [0, 3]⟩
def sx_fillAtom : AExit → X_fillAtom → St := fun _ => sh_fillAtom
def nx_fillAtom (σ : St) : X_fillAtom := (gI σ 14, gI σ 15, cV .str σ 0 0, cV (.list (.int .i64)) σ 0 1, cI σ 0 2, cI σ 1 0, cI σ 1 1, cI σ 1 2, cI σ 1 3, cV TermT σ 1 4, cI σ 1 5, rV .bool σ 3)
def Pre_fillAtom : X_fillAtom → Prop := fun x => match x with | (n, i, nm, rows, over, op, na, fr, to, ts, num, xs) => i = 0 ∧ n = lenI rows ∧ lenI xs = lenI rows ∧ fewT ts ∧ lenI rows ≤ 1000000
def E0_fillAtom : X_fillAtom → X_fillAtom → Prop := fun x y => match x, y with | (n0, i0, nm0, rows0, over0, op0, na0, fr0, to0, ts0, num0, xs0), (n, i, nm, rows, over, op, na, fr, to, ts, num, xs) => (n = n0 ∧ nm = nm0 ∧ rows = rows0 ∧ op = op0 ∧ na = na0 ∧ fr = fr0 ∧ to = to0 ∧ ts = ts0 ∧ num = num0) ∧ (xs = atomV ts num nm rows ∧ over = ovF ts nm rows over0)
def R_fillAtom : X_fillAtom → X_fillAtom → Prop := fun x y => match x, y with | (n0, i0, nm0, rows0, over0, op0, na0, fr0, to0, ts0, num0, xs0), (n, i, nm, rows, over, op, na, fr, to, ts, num, xs) => (n = n0 ∧ nm = nm0 ∧ rows = rows0 ∧ op = op0 ∧ na = na0 ∧ fr = fr0 ∧ to = to0 ∧ ts = ts0 ∧ num = num0) ∧ (False)
def D_fillAtom : X_fillAtom → LEnds X_fillAtom := fun x => ⟨[(0, E0_fillAtom x)], R_fillAtom x⟩
noncomputable def S_fillAtom : Summ := summN sh_fillAtom sx_fillAtom nx_fillAtom Pre_fillAtom D_fillAtom
def Inv_fillAtom : X_fillAtom → X_fillAtom → Prop := fun x y => match x, y with | (n0, i0, nm0, rows0, over0, op0, na0, fr0, to0, ts0, num0, xs0), (n, i, nm, rows, over, op, na, fr, to, ts, num, xs) => (n = n0 ∧ nm = nm0 ∧ rows = rows0 ∧ op = op0 ∧ na = na0 ∧ fr = fr0 ∧ to = to0 ∧ ts = ts0 ∧ num = num0) ∧ ((0 ≤ i ∧ i ≤ n) ∧ lenI xs = lenI rows ∧ over = ovG ts nm rows i.toNat over0 ∧ ∀ j, 0 ≤ j → j < i → nth .bool xs j = atomH ts num nm (nth (.list (.int .i64)) rows j))
def M_fillAtom : X_fillAtom → X_fillAtom → Nat := fun x y => match x, y with | (n0, i0, nm0, rows0, over0, op0, na0, fr0, to0, ts0, num0, xs0), (n, i, nm, rows, over, op, na, fr, to, ts, num, xs) => (n - i).toNat
theorem body_fillAtom (Inv : X_fillAtom → Prop) (meas : X_fillAtom → Nat) (nn : Nat) (EE0 RR : X_fillAtom → Prop) (n : Int) (i : Int) (nm : List (den .str)) (rows : List (den (.list (.int .i64)))) (over : Int) (op : Int) (na : Int) (fr : Int) (to : Int) (ts : List (den TermT)) (num : Int) (xs : List (den .bool)) : awp tab fs_fnAny (acall tab fs_fnAny specs_tany fns 100 20) [] 100 (loopAt Try.f79 3) (bodyN sh_fillAtom sx_fillAtom nx_fillAtom Inv meas nn ⟨[(0, EE0)], RR⟩) (sh_fillAtom (n, i, nm, rows, over, op, na, fr, to, ts, num, xs)) =
  (ifB (ltB i n) (need (inI i (lenI rows)) (need (fewT ts) (ifB (atomO ts nm (nth (Ty.int IntKind.i64).list rows i)) (eqI over over (eqI i i (eqI (selI (ltB i over)
    i over) (selI (ltB i over) i over) (need (inI i (lenI xs)) (need (inI i (lenI xs)) (need (AV.fn (Fn.func 90) (@List.nil AV) (AV.ptr 1 0 :: AV.ptr 2 0 :: @List.nil
    AV) = AV.fn (Fn.func 90) (@List.nil AV) (AV.ptr 1 0 :: AV.ptr 2 0 :: @List.nil AV)) (eqI n n (eqI (addW IntKind.i64 i 1) (addW IntKind.i64 i 1) (eqD nm nm (eqD rows
    rows (eqI (selI (ltB i over) i over) (selI (ltB i over) i over) (eqI op op (eqI na na (eqI fr fr (eqI to to (eqD ts ts (eqI num num (eqD (setI xs i (atomH ts num
    nm (nth (Ty.int IntKind.i64).list rows i))) (setI xs i (atomH ts num nm (nth (Ty.int IntKind.i64).list rows i))) (Inv (n, addW IntKind.i64 i 1, nm, rows, selI (ltB
    i over) i over, op, na, fr, to, ts, num, setI xs i (atomH ts num nm (nth (Ty.int IntKind.i64).list rows i))) ∧ meas (n, addW IntKind.i64 i 1, nm, rows, selI (ltB
    i over) i over, op, na, fr, to, ts, num, setI xs i (atomH ts num nm (nth (Ty.int IntKind.i64).list rows i))) < nn))))))))))))))))))) (need (inI i (lenI xs)) (need
    (inI i (lenI xs)) (need (AV.fn (Fn.func 90) (@List.nil AV) (AV.ptr 1 0 :: AV.ptr 2 0 :: @List.nil AV) = AV.fn (Fn.func 90) (@List.nil AV) (AV.ptr 1 0 :: AV.ptr 2
    0 :: @List.nil AV)) (eqI n n (eqI (addW IntKind.i64 i 1) (addW IntKind.i64 i 1) (eqD nm nm (eqD rows rows (eqI over over (eqI op op (eqI na na (eqI fr fr (eqI to
    to (eqD ts ts (eqI num num (eqD (setI xs i (atomH ts num nm (nth (Ty.int IntKind.i64).list rows i))) (setI xs i (atomH ts num nm (nth (Ty.int IntKind.i64).list rows
    i))) (Inv (n, addW IntKind.i64 i 1, nm, rows, over, op, na, fr, to, ts, num, setI xs i (atomH ts num nm (nth (Ty.int IntKind.i64).list rows i))) ∧ meas (n, addW
    IntKind.i64 i 1, nm, rows, over, op, na, fr, to, ts, num, setI xs i (atomH ts num nm (nth (Ty.int IntKind.i64).list rows i))) < nn))))))))))))))))))) (need (AV.fn
    (Fn.func 90) (@List.nil AV) (AV.ptr 1 0 :: AV.ptr 2 0 :: @List.nil AV) = AV.fn (Fn.func 90) (@List.nil AV) (AV.ptr 1 0 :: AV.ptr 2 0 :: @List.nil AV)) (eqI n n (eqI
    i i (eqD nm nm (eqD rows rows (eqI over over (eqI op op (eqI na na (eqI fr fr (eqI to to (eqD ts ts (eqI num num (eqD xs xs (EE0 (n, i, nm, rows, over, op, na, fr,
    to, ts, num, xs)))))))))))))))) := by kernel_rfl
theorem body_fillAtom_ok : ∀ x y, Pre_fillAtom x → Inv_fillAtom x y → wfS (sh_fillAtom y) → Hd (awp tab fs_fnAny (acall tab fs_fnAny specs_tany fns 100 20) [] 100 (loopAt Try.f79 3) (bodyN sh_fillAtom sx_fillAtom nx_fillAtom (Inv_fillAtom x) (M_fillAtom x) (M_fillAtom x y) (D_fillAtom x)) (sh_fillAtom y)) := by
  rintro ⟨n0, i0, nm0, rows0, over0, op0, na0, fr0, to0, ts0, num0, xs0⟩ ⟨n, i, nm, rows, over, op, na, fr, to, ts, num, xs⟩ hp hI hw
  obtain ⟨⟨rfl, rfl, rfl, rfl, rfl, rfl, rfl, rfl, rfl⟩, hI⟩ := hI
  have hw_n := wfL_int hw 14 rfl
  have hw_i := wfL_int hw 15 rfl
  have hw_nm := wfC_view hw 0 0 rfl
  have hw_rows := wfC_view hw 0 1 rfl
  have hw_over := wfC_int hw 0 2 rfl
  have hw_op := wfC_int hw 1 0 rfl
  have hw_na := wfC_int hw 1 1 rfl
  have hw_fr := wfC_int hw 1 2 rfl
  have hw_to := wfC_int hw 1 3 rfl
  have hw_ts := wfC_view hw 1 4 rfl
  have hw_num := wfC_int hw 1 5 rfl
  have hw_xs := wfR_row hw 3 rfl
  have hp : i0 = 0 ∧ n = lenI rows ∧ lenI xs0 = lenI rows ∧ fewT ts ∧ lenI rows ≤ 1000000 := hp
  unfold D_fillAtom
  rw [body_fillAtom]
  refine ⟨?_⟩
  have hInv : ∀ (i : Int) (over : Int) (xs : List (den .bool)), ((0 ≤ i ∧ i ≤ n) ∧ lenI xs = lenI rows ∧ over = ovG ts nm rows i.toNat over0 ∧ ∀ j, 0 ≤ j → j < i → nth .bool xs j = atomH ts num nm (nth (.list (.int .i64)) rows j)) → Inv_fillAtom (n, i0, nm, rows, over0, op, na, fr, to, ts, num, xs0) (n, i, nm, rows, over, op, na, fr, to, ts, num, xs) := fun _ _ _ h => ⟨⟨rfl, rfl, rfl, rfl, rfl, rfl, rfl, rfl, rfl⟩, h⟩
  generalize hIe : Inv_fillAtom (n, i0, nm, rows, over0, op, na, fr, to, ts, num, xs0) = Inv at hInv ⊢
  have hMe : ∀ (i : Int) (over : Int) (xs : List (den .bool)), M_fillAtom (n, i0, nm, rows, over0, op, na, fr, to, ts, num, xs0) (n, i, nm, rows, over, op, na, fr, to, ts, num, xs) = (n - i).toNat := fun _ _ _ => rfl
  generalize M_fillAtom (n, i0, nm, rows, over0, op, na, fr, to, ts, num, xs0) = Me at hMe ⊢
  have hE0 : ∀ (i : Int) (over : Int) (xs : List (den .bool)), (xs = atomV ts num nm rows ∧ over = ovF ts nm rows over0) → E0_fillAtom (n, i0, nm, rows, over0, op, na, fr, to, ts, num, xs0) (n, i, nm, rows, over, op, na, fr, to, ts, num, xs) := fun _ _ _ h => ⟨⟨rfl, rfl, rfl, rfl, rfl, rfl, rfl, rfl, rfl⟩, h⟩
  generalize E0_fillAtom (n, i0, nm, rows, over0, op, na, fr, to, ts, num, xs0) = EE0 at hE0 ⊢
  have hR : ∀ (i : Int) (over : Int) (xs : List (den .bool)), (False) → R_fillAtom (n, i0, nm, rows, over0, op, na, fr, to, ts, num, xs0) (n, i, nm, rows, over, op, na, fr, to, ts, num, xs) := fun _ _ _ h => ⟨⟨rfl, rfl, rfl, rfl, rfl, rfl, rfl, rfl, rfl⟩, h⟩
  generalize R_fillAtom (n, i0, nm, rows, over0, op, na, fr, to, ts, num, xs0) = RR at hR ⊢
  obtain ⟨hi, hl, ho, hI⟩ := hI
  obtain ⟨p1, rfl, p3, p4, p5⟩ := hp
  by_cases hlt : i < lenI rows
  · have ei : addW .i64 i 1 = i + 1 := addW64 (by omega) (by omega)
    have hst := set_step (b := atomH ts num nm (nth (.list (.int .i64)) rows i)) (f := fun j => atomH ts num nm (nth (.list (.int .i64)) rows j)) hi.1 (by rw [hl]; exact hlt) rfl hI
    have hov := ov_step (ts := ts) (nm := nm) (rows := rows) (o := over0) hi.1
    rw [← ho] at hov
    have hmin : selI (ltB i over) i over = min over i := by simp only [selI_def, ltB_def, decide_eq_true_eq]; split <;> omega
    rw [ltB_t.2 hlt]
    simp only [ei, hmin]
    cases hb : atomO ts nm (nth (.list (.int .i64)) rows i)
    · rw [hb] at hov
      simp only [Bool.false_eq_true, if_false] at hov
      simp only [simpsL, implies_true, forall_const, if_true, if_false, reduceCtorEq, hMe, p4, hl]
      repeat' (first | with_reducible rfl | assumption | omega | (exact hInv _ _ _ ⟨by omega, hst.1.trans hl, hov.symm, hst.2⟩) | refine ⟨?_, ?_⟩ | intro _)
    · rw [hb] at hov
      simp only [if_true] at hov
      simp only [simpsL, implies_true, forall_const, if_true, if_false, reduceCtorEq, hMe, p4, hl]
      repeat' (first | with_reducible rfl | assumption | omega | (exact hInv _ _ _ ⟨by omega, hst.1.trans hl, hov.symm, hst.2⟩) | refine ⟨?_, ?_⟩ | intro _)
  · rw [ltB_f.2 (Int.not_lt.1 hlt)]
    have hin : i = lenI rows := by omega
    simp only [simpsL, implies_true, forall_const, if_true, if_false, reduceCtorEq]
    refine hE0 _ _ _ ⟨tab_ext hl fun j h0 h1 => hI j h0 (by omega), ?_⟩
    rw [ho, hin]; rfl
theorem summ_fillAtom : SummOK Try.prog (loopAt Try.f79 3) S_fillAtom :=
  summN_ok (L := []) (fuel := 100) tabOK fsOK_fnAny (mkCall fsOK_fnAny specsOK_tany fnsOK) (fun C => mkDraw fsOK_fnAny (mkCall fsOK_fnAny specsOK_tany fnsOK) C) loopsOK_nil Inv_fillAtom M_fillAtom
    (fun x hp hw => by
      obtain ⟨n, i, nm, rows, over, op, na, fr, to, ts, num, xs⟩ := x
      have hp : i = 0 ∧ n = lenI rows ∧ lenI xs = lenI rows ∧ fewT ts ∧ lenI rows ≤ 1000000 := hp
      have hw_n := wfL_int hw 14 rfl
      have hw_i := wfL_int hw 15 rfl
      have hw_nm := wfC_view hw 0 0 rfl
      have hw_rows := wfC_view hw 0 1 rfl
      have hw_over := wfC_int hw 0 2 rfl
      have hw_op := wfC_int hw 1 0 rfl
      have hw_na := wfC_int hw 1 1 rfl
      have hw_fr := wfC_int hw 1 2 rfl
      have hw_to := wfC_int hw 1 3 rfl
      have hw_ts := wfC_view hw 1 4 rfl
      have hw_num := wfC_int hw 1 5 rfl
      have hw_xs := wfR_row hw 3 rfl
      obtain ⟨rfl, rfl, h, h2⟩ := hp
      exact ⟨⟨rfl, rfl, rfl, rfl, rfl, rfl, rfl, rfl, rfl⟩, ⟨by omega, lenI_nn _⟩, h, rfl, fun j _ _ => by omega⟩)
    (body_fillAtom_ok)
noncomputable def fns_fillAtom : Fns := (79, Try.f79, [(3, S_fillAtom)]) :: fns
theorem fn_fillAtom : FnOK Try.prog 79 Try.f79 [(3, S_fillAtom)] := fnOK_loops Try.func79 (fun vs w => Try.call79 vs w) (by kernel_rfl) fun k S h => by
  simp only [List.mem_cons, Prod.mk.injEq, List.not_mem_nil, or_false] at h
  obtain ⟨rfl, rfl⟩ := h
  exact summ_fillAtom
theorem fns_fillAtomOK : FnsOK Try.prog fns_fillAtom := fnsOK_cons fn_fillAtom fnsOK
noncomputable def fillAtomS : List AV → List Blk → AK → Prop := fun args m K => match args, m with | [.ptr 0 0, .fn (.func 90) [] [.ptr 1 0, .ptr 2 0]], [.var [.view [] .str nm, .view [] (.list (.int .i64)) rows, .int .i64 over], .var [.int .i64 op, .int .i64 na, .int .i64 fr, .int .i64 to, .view [] (.prod .str (.int .i64)) ts, .int .i64 num], .var [.ptr 0 0]] => need (oneR (lenI rows)) (need (fewT ts) (K (.ret (.view [] .bool (atomV ts num nm rows))) [.var [.view [] .str nm, .view [] (.list (.int .i64)) rows, .int .i64 (ovF ts nm rows over)], .var [.int .i64 op, .int .i64 na, .int .i64 fr, .int .i64 to, .view [] TermT ts, .int .i64 num], .var [.ptr 0 0]] [] [0])) | _, _ => False
theorem fillAtom_eq (K : AK) (nm : List (List UInt8)) (rows : List (List Int)) (over op na fr to num : Int) (ts : List (den TermT)) : acall tab fs_fnAny specs_copiedS fns_fillAtom 100 20 79 [.ptr 0 0, .fn (.func 90) [] [.ptr 1 0, .ptr 2 0]] [.var [.view [] .str nm, .view [] (.list (.int .i64)) rows, .int .i64 over], .var [.int .i64 op, .int .i64 na, .int .i64 fr, .int .i64 to, .view [] TermT ts, .int .i64 num], .var [.ptr 0 0]] (frzK (mlen [.var [.view [] .str nm, .view [] (.list (.int .i64)) rows, .int .i64 over], .var [.int .i64 op, .int .i64 na, .int .i64 fr, .int .i64 to, .view [] TermT ts, .int .i64 num], .var [.ptr 0 0]]) (.any) [] [0] K) =
  (eqI (lenI rows) (lenI rows) (need (geZ (lenI rows)) (need (fitA (lenI rows)) (need (AV.fn (Fn.func 90) (@List.nil AV) (AV.ptr 1 0 :: AV.ptr 2 0 :: @List.nil AV)
    = AV.fn (Fn.func 90) (@List.nil AV) (AV.ptr 1 0 :: AV.ptr 2 0 :: @List.nil AV)) (eqI (lenI (repI (lenI rows) false)) (lenI (repI (lenI rows) false)) (eqI 0 0 (eqD
    nm nm (eqD rows rows (eqI over over (eqI op op (eqI na na (eqI fr fr (eqI to to (eqD ts ts (eqI num num (eqD (repI (lenI rows) false) (repI (lenI rows) false) (((0
    : Int) = 0 ∧ lenI (repI (lenI rows) false) = lenI rows ∧ lenI (repI (lenI rows) false) = lenI rows ∧ fewT ts ∧ lenI rows ≤ 1000000) ∧ ((∀ (y : X_fillAtom), (y.1
    = lenI (repI (lenI rows) false) ∧ y.2.2.1 = nm ∧ y.2.2.2.1 = rows ∧ y.2.2.2.2.2.1 = op ∧ y.2.2.2.2.2.2.1 = na ∧ y.2.2.2.2.2.2.2.1 = fr ∧ y.2.2.2.2.2.2.2.2.1 = to
    ∧ y.2.2.2.2.2.2.2.2.2.1 = ts ∧ y.2.2.2.2.2.2.2.2.2.2.1 = num) ∧ y.2.2.2.2.2.2.2.2.2.2.2 = atomV y.2.2.2.2.2.2.2.2.2.1 y.2.2.2.2.2.2.2.2.2.2.1 y.2.2.1 y.2.2.2.1 ∧
    y.2.2.2.2.1 = ovF y.2.2.2.2.2.2.2.2.2.1 y.2.2.1 y.2.2.2.1 over → K (AOut.ret (AV.view (@List.nil Nat) Ty.bool y.2.2.2.2.2.2.2.2.2.2.2)) (Blk.var (AV.view (@List.nil
    Nat) Ty.str y.2.2.1 :: AV.view (@List.nil Nat) (Ty.int IntKind.i64).list y.2.2.2.1 :: AV.int IntKind.i64 y.2.2.2.2.1 :: @List.nil AV) :: Blk.var (AV.int IntKind.i64
    y.2.2.2.2.2.1 :: AV.int IntKind.i64 y.2.2.2.2.2.2.1 :: AV.int IntKind.i64 y.2.2.2.2.2.2.2.1 :: AV.int IntKind.i64 y.2.2.2.2.2.2.2.2.1 :: AV.view (@List.nil Nat)
    TermT y.2.2.2.2.2.2.2.2.2.1 :: AV.int IntKind.i64 y.2.2.2.2.2.2.2.2.2.2.1 :: @List.nil AV) :: Blk.var (AV.ptr 0 0 :: @List.nil AV) :: @List.nil Blk) (@List.nil Nat)
    (0 :: @List.nil Nat)) ∧ True) ∧ ∀ (y : X_fillAtom), (y.1 = lenI (repI (lenI rows) false) ∧ y.2.2.1 = nm ∧ y.2.2.2.1 = rows ∧ y.2.2.2.2.2.1 = op ∧ y.2.2.2.2.2.2.1
    = na ∧ y.2.2.2.2.2.2.2.1 = fr ∧ y.2.2.2.2.2.2.2.2.1 = to ∧ y.2.2.2.2.2.2.2.2.2.1 = ts ∧ y.2.2.2.2.2.2.2.2.2.2.1 = num) ∧ False → K (AOut.ret AV.bad) (Blk.var (AV.view
    (@List.nil Nat) Ty.str y.2.2.1 :: AV.view (@List.nil Nat) (Ty.int IntKind.i64).list y.2.2.2.1 :: AV.int IntKind.i64 y.2.2.2.2.1 :: @List.nil AV) :: Blk.var (AV.int
    IntKind.i64 y.2.2.2.2.2.1 :: AV.int IntKind.i64 y.2.2.2.2.2.2.1 :: AV.int IntKind.i64 y.2.2.2.2.2.2.2.1 :: AV.int IntKind.i64 y.2.2.2.2.2.2.2.2.1 :: AV.view (@List.nil
    Nat) TermT y.2.2.2.2.2.2.2.2.2.1 :: AV.int IntKind.i64 y.2.2.2.2.2.2.2.2.2.2.1 :: @List.nil AV) :: Blk.var (AV.ptr 0 0 :: @List.nil AV) :: @List.nil Blk) (@List.nil
    Nat) (0 :: @List.nil Nat)))))))))))))))))) := by kernel_rfl
theorem fillAtom_ok : SpecOK Try.prog 79 fillAtomS := specOKF_of (mkCall fsOK_fnAny specsOK_copiedS fns_fillAtomOK) (.any) [] [0] (fun vs w => Try.call79 vs w) fun args m K h hw hwm => by
  unfold fillAtomS at h
  split at h
  · rename_i nm rows over op na fr to num ts
    rw [fillAtom_eq]
    refine ⟨?_⟩
    simp only [wfAL, wfA, wfS, wfM, wfB, and_true, true_and, wfT_int, wfT_str, wfT_bool, wfT_prod] at hw hwm
    obtain ⟨h1, h2, h⟩ := h
    have hr := lenI_nn rows
    have h10 := h1
    unfold oneR at h10
    have f1 : fitA (lenI rows) := by unfold fitA; omega
    have f2 : lenI (repI (lenI rows) false) = lenI rows := by unfold repI lenI; simp
    simp only [simpsL, implies_true, forall_const, if_true, if_false, reduceCtorEq, f1, f2, h2, h10]
    refine ⟨hr, fun y hy => ?_⟩
    obtain ⟨n, i, nm, rows, over, op, na, fr, to, ts, num, xs⟩ := y
    dsimp only at hy ⊢
    obtain ⟨⟨rfl, rfl, rfl, rfl, rfl, rfl, rfl, rfl, rfl⟩, rfl, rfl⟩ := hy
    exact h
  · exact h.elim
noncomputable def SP_fillAtom : List AV → List Blk → AK → Prop := (altS 90 (frameS fillAtomS) SP_fillSince)
theorem SPok_fillAtom : SpecOK Try.prog 79 SP_fillAtom := (altS_ok (frame_ok fillAtom_ok) SPok_fillSince)
noncomputable def specs_fillAtom : Specs := (79, SP_fillAtom) :: specs_tany
theorem specsOK_fillAtom : SpecsOK Try.prog specs_fillAtom := specsOK_cons SPok_fillAtom specsOK_tany
noncomputable def tatomS : List AV → List Blk → AK → Prop := fun args m K => match args, m with | [.ptr 0 0, .agg [.int .i64 op, .int .i64 na, .int .i64 fr, .int .i64 to, .view [] (.prod .str (.int .i64)) ts, .int .i64 num]], [.var [.view [] .str nm, .view [] (.list (.int .i64)) rows, .int .i64 over]] => need (oneR (lenI rows)) (need (fewT ts) (K (.ret (.view [] .bool (atomV ts num nm rows))) [.var [.view [] .str nm, .view [] (.list (.int .i64)) rows, .int .i64 (ovF ts nm rows over)]] [] [0])) | _, _ => False
theorem tatom_eq (K : AK) (nm : List (List UInt8)) (rows : List (List Int)) (over op na fr to num : Int) (ts : List (den TermT)) : acall tab fs_fnAny specs_fillAtom fns 100 20 81 [.ptr 0 0, .agg [.int .i64 op, .int .i64 na, .int .i64 fr, .int .i64 to, .view [] TermT ts, .int .i64 num]] [.var [.view [] .str nm, .view [] (.list (.int .i64)) rows, .int .i64 over]] (frzK (mlen [.var [.view [] .str nm, .view [] (.list (.int .i64)) rows, .int .i64 over]]) (.any) [] [0] K) =
  (need (oneR (lenI rows)) (need (fewT ts) (K (AOut.ret (AV.view (@List.nil Nat) Ty.bool (atomV ts num nm rows))) (Blk.var (AV.view (@List.nil Nat) Ty.str nm :: AV.view
    (@List.nil Nat) (Ty.int IntKind.i64).list rows :: AV.int IntKind.i64 (ovF ts nm rows over) :: @List.nil AV) :: @List.nil Blk) (@List.nil Nat) (0 :: @List.nil Nat)))) := by kernel_rfl
theorem tatom_ok : SpecOK Try.prog 81 tatomS := specOKF_of (mkCall fsOK_fnAny specsOK_fillAtom fnsOK) (.any) [] [0] (fun vs w => Try.call81 vs w) fun args m K h hw hwm => by
  unfold tatomS at h
  split at h
  · rename_i nm rows over op na fr to num ts
    rw [tatom_eq]
    refine ⟨?_⟩
    simp only [wfAL, wfA, wfS, wfM, wfB, and_true, true_and, wfT_int, wfT_str, wfT_bool, wfT_prod] at hw hwm
    obtain ⟨h1, h2, h⟩ := h
    simp only [simpsL, implies_true, forall_const, if_true, if_false, reduceCtorEq, h1, h2]
    exact h
  · exact h.elim
noncomputable def SP_tatom : List AV → List Blk → AK → Prop := (frameS tatomS)
theorem SPok_tatom : SpecOK Try.prog 81 SP_tatom := (frame_ok tatom_ok)
noncomputable def specs_tatom : Specs := (81, SP_tatom) :: specs_fillAtom
theorem specsOK_tatom : SpecsOK Try.prog specs_tatom := specsOK_cons SPok_tatom specsOK_fillAtom
end Go.Proofs.Ytmdjpohmbkodeaa.Sx

