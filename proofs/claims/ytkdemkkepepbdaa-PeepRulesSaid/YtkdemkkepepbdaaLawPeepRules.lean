/- Ytkdemkkepepbdaa: the law PeepRules returns true for every input, and its arguments read as they did: no condition. -/
import Derived.Test.YtkdemkkepepbdaaRows
import Derived.Test.YtkdemkkepepbdaaSxV
import Derived.Test.YtkdemkkepepbdaaSmPeepF
import Derived.HandedShaped
namespace Go.Proofs.Ytkdemkkepepbdaa
open Go.ChangeShapes Go.WideShapes Go.ChangeAt Go.RowKit Sx
set_option maxRecDepth 100000
set_option linter.unusedVariables false
set_option linter.unusedSimpArgs false
set_option maxHeartbeats 4000000

abbrev X_prules := List (den CodeT) × Int × Int × Bool
def sh_prules : X_prules → St := fun x => match x with | (l, p, i, r) => ⟨setL (rep .bad 70) [(0, .view [] CodeT l), (1, .int .i64 p), (6, .int .i64 i), (5, .vsl 0 0 7 7)], [.var R7], [0], []⟩
def shr_prules : X_prules → St := fun x => match x with | (l, p, i, r) => ⟨setL (rep .bad 70) [(0, .view [] CodeT l), (1, .int .i64 p), (6, .int .i64 i), (4, .bool r), (5, .vsl 0 0 7 7)], [.var R7], [0], []⟩
def sx_prules : AExit → X_prules → St := fun e => match e with | .ret => shr_prules | _ => sh_prules
def nx_prules (σ : St) : X_prules := (gV CodeT σ 0, gI σ 1, gI σ 6, gB σ 4)
def Pre_prules : X_prules → Prop := fun x => match x with | (l, p, i, r) => ((i = 0)) ∧ (inI p (lenI l) ∧ lenI l ≤ 100)
def E0_prules : X_prules → X_prules → Prop := fun x y => match x, y with | (l0, p0, i0, r0), (l, p, i, r) => (l = l0 ∧ p = p0) ∧ (True)
def R_prules : X_prules → X_prules → Prop := fun x y => match x, y with | (l0, p0, i0, r0), (l, p, i, r) => (l = l0 ∧ p = p0) ∧ (False)
def D_prules : X_prules → LEnds X_prules := fun x => ⟨[(0, E0_prules x)], R_prules x⟩
noncomputable def S_prules : Summ := summN sh_prules sx_prules nx_prules Pre_prules D_prules
theorem body_prules0 (EE0 RR : X_prules → Prop) (l : List (den CodeT)) (p : Int) (r : Bool) : awp tab fs_alive (acall tab fs_alive specs_rules fns 100 20) [] 100 (.loop (loopAt Try.f4 10)) (bodyN sh_prules sx_prules nx_prules (fun _ => False) (fun _ => 0) 0 ⟨[(0, EE0)], RR⟩) (sh_prules (l, p, 0, r)) =
  (ifB (selB (areF l p (3 :: 3 :: @List.nil Int)) (selB (ltB (lenI l) (addW IntKind.i64 p 2)) true false) false) (eqDr l (eqIr p (eqLr false (needr (AV.vsl 0 0 7 7)
    (eqIr 0 (needr (AV.fn (Fn.func 16) ([]) (AV.vptr [] (AV.view [] CodeT (@List.nil (den CodeT)) :: []) :: AV.vptr [] (AV.int IntKind.i64 3 :: []) :: [])) (needr (AV.fn
    (Fn.func 16) ([]) (AV.vptr [] (AV.view [] CodeT (((1 : Int), (0 : Int), (0 : Int), (0 : Int)) :: @List.nil (den CodeT)) :: []) :: AV.vptr [] (AV.int IntKind.i64
    0 :: []) :: [])) (needr (AV.fn (Fn.func 16) ([]) (AV.vptr [] (AV.view [] CodeT (((0 : Int), (0 : Int), (0 : Int), (0 : Int)) :: @List.nil (den CodeT)) :: []) ::
    AV.vptr [] (AV.int IntKind.i64 1 :: []) :: [])) (needr (AV.fn (Fn.func 18) ([]) (AV.vptr [] (AV.bool false :: []) :: [])) (needr (AV.fn (Fn.func 18) ([]) (AV.vptr
    [] (AV.bool true :: []) :: [])) (needr (AV.fn (Fn.func 20) ([]) (AV.vptr [] (AV.bool false :: []) :: [])) (needr (AV.fn (Fn.func 20) ([]) (AV.vptr [] (AV.bool true
    :: []) :: [])) (RR (l, p, 0, false)))))))))))))) (ifB (selB (areF l p (0 :: 3 :: @List.nil Int)) (selB (ltB (lenI l) (addW IntKind.i64 p 2)) true false) false) (eqDr
    l (eqIr p (eqLr false (needr (AV.vsl 0 0 7 7) (eqIr 1 (needr (AV.fn (Fn.func 16) ([]) (AV.vptr [] (AV.view [] CodeT (@List.nil (den CodeT)) :: []) :: AV.vptr []
    (AV.int IntKind.i64 3 :: []) :: [])) (needr (AV.fn (Fn.func 16) ([]) (AV.vptr [] (AV.view [] CodeT (((1 : Int), (0 : Int), (0 : Int), (0 : Int)) :: @List.nil (den
    CodeT)) :: []) :: AV.vptr [] (AV.int IntKind.i64 0 :: []) :: [])) (needr (AV.fn (Fn.func 16) ([]) (AV.vptr [] (AV.view [] CodeT (((0 : Int), (0 : Int), (0 : Int),
    (0 : Int)) :: @List.nil (den CodeT)) :: []) :: AV.vptr [] (AV.int IntKind.i64 1 :: []) :: [])) (needr (AV.fn (Fn.func 18) ([]) (AV.vptr [] (AV.bool false :: [])
    :: [])) (needr (AV.fn (Fn.func 18) ([]) (AV.vptr [] (AV.bool true :: []) :: [])) (needr (AV.fn (Fn.func 20) ([]) (AV.vptr [] (AV.bool false :: []) :: [])) (needr
    (AV.fn (Fn.func 20) ([]) (AV.vptr [] (AV.bool true :: []) :: [])) (RR (l, p, 1, false)))))))))))))) (ifB (selB (areF l p (1 :: 3 :: @List.nil Int)) (selB (ltB (lenI
    l) (addW IntKind.i64 p 2)) true false) false) (eqDr l (eqIr p (eqLr false (needr (AV.vsl 0 0 7 7) (eqIr 2 (needr (AV.fn (Fn.func 16) ([]) (AV.vptr [] (AV.view []
    CodeT (@List.nil (den CodeT)) :: []) :: AV.vptr [] (AV.int IntKind.i64 3 :: []) :: [])) (needr (AV.fn (Fn.func 16) ([]) (AV.vptr [] (AV.view [] CodeT (((1 : Int),
    (0 : Int), (0 : Int), (0 : Int)) :: @List.nil (den CodeT)) :: []) :: AV.vptr [] (AV.int IntKind.i64 0 :: []) :: [])) (needr (AV.fn (Fn.func 16) ([]) (AV.vptr []
    (AV.view [] CodeT (((0 : Int), (0 : Int), (0 : Int), (0 : Int)) :: @List.nil (den CodeT)) :: []) :: AV.vptr [] (AV.int IntKind.i64 1 :: []) :: [])) (needr (AV.fn
    (Fn.func 18) ([]) (AV.vptr [] (AV.bool false :: []) :: [])) (needr (AV.fn (Fn.func 18) ([]) (AV.vptr [] (AV.bool true :: []) :: [])) (needr (AV.fn (Fn.func 20) ([])
    (AV.vptr [] (AV.bool false :: []) :: [])) (needr (AV.fn (Fn.func 20) ([]) (AV.vptr [] (AV.bool true :: []) :: [])) (RR (l, p, 2, false)))))))))))))) (ifB (selB (twinsC
    false l p) (selB (selB (ltB (twinsN false l p) 1) true (ltB (lenI l) (addW IntKind.i64 p (twinsN false l p)))) true (leB (twinsN false l p) (lenI (twinsL false l
    p)))) false) (eqDr l (eqIr p (eqLr false (needr (AV.vsl 0 0 7 7) (eqIr 3 (needr (AV.fn (Fn.func 16) ([]) (AV.vptr [] (AV.view [] CodeT (@List.nil (den CodeT)) ::
    []) :: AV.vptr [] (AV.int IntKind.i64 3 :: []) :: [])) (needr (AV.fn (Fn.func 16) ([]) (AV.vptr [] (AV.view [] CodeT (((1 : Int), (0 : Int), (0 : Int), (0 : Int))
    :: @List.nil (den CodeT)) :: []) :: AV.vptr [] (AV.int IntKind.i64 0 :: []) :: [])) (needr (AV.fn (Fn.func 16) ([]) (AV.vptr [] (AV.view [] CodeT (((0 : Int), (0
    : Int), (0 : Int), (0 : Int)) :: @List.nil (den CodeT)) :: []) :: AV.vptr [] (AV.int IntKind.i64 1 :: []) :: [])) (needr (AV.fn (Fn.func 18) ([]) (AV.vptr [] (AV.bool
    false :: []) :: [])) (needr (AV.fn (Fn.func 18) ([]) (AV.vptr [] (AV.bool true :: []) :: [])) (needr (AV.fn (Fn.func 20) ([]) (AV.vptr [] (AV.bool false :: []) ::
    [])) (needr (AV.fn (Fn.func 20) ([]) (AV.vptr [] (AV.bool true :: []) :: [])) (RR (l, p, 3, false)))))))))))))) (ifB (selB (twinsC true l p) (selB (selB (ltB (twinsN
    true l p) 1) true (ltB (lenI l) (addW IntKind.i64 p (twinsN true l p)))) true (leB (twinsN true l p) (lenI (twinsL true l p)))) false) (eqDr l (eqIr p (eqLr false
    (needr (AV.vsl 0 0 7 7) (eqIr 4 (needr (AV.fn (Fn.func 16) ([]) (AV.vptr [] (AV.view [] CodeT (@List.nil (den CodeT)) :: []) :: AV.vptr [] (AV.int IntKind.i64 3
    :: []) :: [])) (needr (AV.fn (Fn.func 16) ([]) (AV.vptr [] (AV.view [] CodeT (((1 : Int), (0 : Int), (0 : Int), (0 : Int)) :: @List.nil (den CodeT)) :: []) :: AV.vptr
    [] (AV.int IntKind.i64 0 :: []) :: [])) (needr (AV.fn (Fn.func 16) ([]) (AV.vptr [] (AV.view [] CodeT (((0 : Int), (0 : Int), (0 : Int), (0 : Int)) :: @List.nil
    (den CodeT)) :: []) :: AV.vptr [] (AV.int IntKind.i64 1 :: []) :: [])) (needr (AV.fn (Fn.func 18) ([]) (AV.vptr [] (AV.bool false :: []) :: [])) (needr (AV.fn (Fn.func
    18) ([]) (AV.vptr [] (AV.bool true :: []) :: [])) (needr (AV.fn (Fn.func 20) ([]) (AV.vptr [] (AV.bool false :: []) :: [])) (needr (AV.fn (Fn.func 20) ([]) (AV.vptr
    [] (AV.bool true :: []) :: [])) (RR (l, p, 4, false)))))))))))))) (ifB (selB (idleC false l p) (selB (selB (ltB (idleN l p) 1) true (ltB (lenI l) (addW IntKind.i64
    p (idleN l p)))) true (leB (idleN l p) (lenI (idleL false l p)))) false) (eqDr l (eqIr p (eqLr false (needr (AV.vsl 0 0 7 7) (eqIr 5 (needr (AV.fn (Fn.func 16) ([])
    (AV.vptr [] (AV.view [] CodeT (@List.nil (den CodeT)) :: []) :: AV.vptr [] (AV.int IntKind.i64 3 :: []) :: [])) (needr (AV.fn (Fn.func 16) ([]) (AV.vptr [] (AV.view
    [] CodeT (((1 : Int), (0 : Int), (0 : Int), (0 : Int)) :: @List.nil (den CodeT)) :: []) :: AV.vptr [] (AV.int IntKind.i64 0 :: []) :: [])) (needr (AV.fn (Fn.func
    16) ([]) (AV.vptr [] (AV.view [] CodeT (((0 : Int), (0 : Int), (0 : Int), (0 : Int)) :: @List.nil (den CodeT)) :: []) :: AV.vptr [] (AV.int IntKind.i64 1 :: [])
    :: [])) (needr (AV.fn (Fn.func 18) ([]) (AV.vptr [] (AV.bool false :: []) :: [])) (needr (AV.fn (Fn.func 18) ([]) (AV.vptr [] (AV.bool true :: []) :: [])) (needr
    (AV.fn (Fn.func 20) ([]) (AV.vptr [] (AV.bool false :: []) :: [])) (needr (AV.fn (Fn.func 20) ([]) (AV.vptr [] (AV.bool true :: []) :: [])) (RR (l, p, 5, false))))))))))))))
    (ifB (selB (idleC true l p) (selB (selB (ltB (idleN l p) 1) true (ltB (lenI l) (addW IntKind.i64 p (idleN l p)))) true (leB (idleN l p) (lenI (idleL true l p))))
    false) (eqDr l (eqIr p (eqLr false (needr (AV.vsl 0 0 7 7) (eqIr 6 (needr (AV.fn (Fn.func 16) ([]) (AV.vptr [] (AV.view [] CodeT (@List.nil (den CodeT)) :: []) ::
    AV.vptr [] (AV.int IntKind.i64 3 :: []) :: [])) (needr (AV.fn (Fn.func 16) ([]) (AV.vptr [] (AV.view [] CodeT (((1 : Int), (0 : Int), (0 : Int), (0 : Int)) :: @List.nil
    (den CodeT)) :: []) :: AV.vptr [] (AV.int IntKind.i64 0 :: []) :: [])) (needr (AV.fn (Fn.func 16) ([]) (AV.vptr [] (AV.view [] CodeT (((0 : Int), (0 : Int), (0 :
    Int), (0 : Int)) :: @List.nil (den CodeT)) :: []) :: AV.vptr [] (AV.int IntKind.i64 1 :: []) :: [])) (needr (AV.fn (Fn.func 18) ([]) (AV.vptr [] (AV.bool false ::
    []) :: [])) (needr (AV.fn (Fn.func 18) ([]) (AV.vptr [] (AV.bool true :: []) :: [])) (needr (AV.fn (Fn.func 20) ([]) (AV.vptr [] (AV.bool false :: []) :: [])) (needr
    (AV.fn (Fn.func 20) ([]) (AV.vptr [] (AV.bool true :: []) :: [])) (RR (l, p, 6, false)))))))))))))) (eqDr l (eqIr p (needr (AV.vsl 0 0 7 7) (eqIr 7 (needr (AV.fn
    (Fn.func 16) ([]) (AV.vptr [] (AV.view [] CodeT (@List.nil (den CodeT)) :: []) :: AV.vptr [] (AV.int IntKind.i64 3 :: []) :: [])) (needr (AV.fn (Fn.func 16) ([])
    (AV.vptr [] (AV.view [] CodeT (((1 : Int), (0 : Int), (0 : Int), (0 : Int)) :: @List.nil (den CodeT)) :: []) :: AV.vptr [] (AV.int IntKind.i64 0 :: []) :: [])) (needr
    (AV.fn (Fn.func 16) ([]) (AV.vptr [] (AV.view [] CodeT (((0 : Int), (0 : Int), (0 : Int), (0 : Int)) :: @List.nil (den CodeT)) :: []) :: AV.vptr [] (AV.int IntKind.i64
    1 :: []) :: [])) (needr (AV.fn (Fn.func 18) ([]) (AV.vptr [] (AV.bool false :: []) :: [])) (needr (AV.fn (Fn.func 18) ([]) (AV.vptr [] (AV.bool true :: []) :: []))
    (needr (AV.fn (Fn.func 20) ([]) (AV.vptr [] (AV.bool false :: []) :: [])) (needr (AV.fn (Fn.func 20) ([]) (AV.vptr [] (AV.bool true :: []) :: [])) (EE0 (l, p, 7,
    false)))))))))))))))))))) := by kernel_rfl
theorem body_prules_ok : ∀ x, Pre_prules x → wfS (sh_prules x) → Hd (awp tab fs_alive (acall tab fs_alive specs_rules fns 100 20) [] 100 (.loop (loopAt Try.f4 10)) (bodyN sh_prules sx_prules nx_prules (fun _ => False) (fun _ => 0) 0 (D_prules x)) (sh_prules x)) := by
  rintro ⟨l0, p0, i0, r0⟩ hp hw
  obtain ⟨hc, hp⟩ := hp
  have hp : inI p0 (lenI l0) ∧ lenI l0 ≤ 100 := hp
  unfold D_prules
  have hE0 : ∀ (i : Int) (r : Bool), (True) → E0_prules (l0, p0, i0, r0) (l0, p0, i, r) := fun _ _ h => ⟨⟨rfl, rfl⟩, h⟩
  generalize E0_prules (l0, p0, i0, r0) = EE0 at hE0 ⊢
  generalize R_prules (l0, p0, i0, r0) = RR
  rcases hc with rfl
  · rw [body_prules0]
    refine ⟨?_⟩
    obtain ⟨⟨h0, h1⟩, h2⟩ := hp
    rw [bad_tu h0 h1 (by omega), bad_tu h0 h1 (by omega), bad_tu h0 h1 (by omega), bad_tw h0 h1 (by omega), bad_tw h0 h1 (by omega), bad_id h0 h1 (by omega), bad_id h0 h1 (by omega)]
    simp only [ifB_def, eqI_def, eqL_def, eqD_def, need_def, true_and, and_true, reduceCtorEq, false_implies, true_implies]
    exact hE0 _ _ trivial
theorem summ_prules : SummOK Try.prog (loopAt Try.f4 10) S_prules :=
  summW_ok (L := []) (fuel := 100) tabOK fsOK_alive (mkCall fsOK_alive specsOK_rules fnsOK) (fun C => mkDraw fsOK_alive (mkCall fsOK_alive specsOK_rules fnsOK) C) loopsOK_nil body_prules_ok
noncomputable def fns_LPeepRules : Fns := (4, Try.f4, [(10, S_prules)]) :: fns
theorem fn_LPeepRules : FnOK Try.prog 4 Try.f4 [(10, S_prules)] := fnOK_loops Try.func4 (fun vs w => Try.call4 vs w) (by kernel_rfl) fun k S h => by
  simp only [List.mem_cons, Prod.mk.injEq, List.not_mem_nil, or_false] at h
  obtain ⟨rfl, rfl⟩ := h
  exact summ_prules
theorem fns_LPeepRulesOK : FnsOK Try.prog fns_LPeepRules := fnsOK_cons fn_LPeepRules fnsOK
theorem PeepRules_eq (l : List (den CodeT)) (p : Int) : acall tab fs_alive specs_rules fns_LPeepRules 100 20 4 [.view [] CodeT l, .int .i64 p] [] (fun o _ _ _ => o = .ret (.bool true)) =
  (ifB (selB (eqB (lenI l) 0) true (ltB 100 (lenI l))) (AOut.ret (AV.bool true) = AOut.ret (AV.bool true)) (need (nzI (lenI l)) (eqDr l (eqIr (selI (ltB (remI p (lenI
    l)) 0) (addW IntKind.i64 (remI p (lenI l)) (lenI l)) (remI p (lenI l))) (needr (AV.vsl 0 0 7 7) (eqIr 0 (needr (AV.fn (Fn.func 16) ([]) (AV.vptr [] (AV.view [] CodeT
    (@List.nil (den CodeT)) :: []) :: AV.vptr [] (AV.int IntKind.i64 3 :: []) :: [])) (needr (AV.fn (Fn.func 16) ([]) (AV.vptr [] (AV.view [] CodeT (((1 : Int), (0 :
    Int), (0 : Int), (0 : Int)) :: @List.nil (den CodeT)) :: []) :: AV.vptr [] (AV.int IntKind.i64 0 :: []) :: [])) (needr (AV.fn (Fn.func 16) ([]) (AV.vptr [] (AV.view
    [] CodeT (((0 : Int), (0 : Int), (0 : Int), (0 : Int)) :: @List.nil (den CodeT)) :: []) :: AV.vptr [] (AV.int IntKind.i64 1 :: []) :: [])) (needr (AV.fn (Fn.func
    18) ([]) (AV.vptr [] (AV.bool false :: []) :: [])) (needr (AV.fn (Fn.func 18) ([]) (AV.vptr [] (AV.bool true :: []) :: [])) (needr (AV.fn (Fn.func 20) ([]) (AV.vptr
    [] (AV.bool false :: []) :: [])) (needr (AV.fn (Fn.func 20) ([]) (AV.vptr [] (AV.bool true :: []) :: [])) (((0 : Int) = 0 ∧ inI (selI (ltB (remI p (lenI l)) 0) (addW
    IntKind.i64 (remI p (lenI l)) (lenI l)) (remI p (lenI l))) (lenI l) ∧ lenI l ≤ 100) ∧ ((∀ (y : X_prules), (y.1 = l ∧ y.2.1 = selI (ltB (remI p (lenI l)) 0) (addW
    IntKind.i64 (remI p (lenI l)) (lenI l)) (remI p (lenI l))) ∧ True → AOut.ret (AV.bool true) = AOut.ret (AV.bool true)) ∧ True) ∧ ∀ (y : X_prules), (y.1 = l ∧ y.2.1
    = selI (ltB (remI p (lenI l)) 0) (addW IntKind.i64 (remI p (lenI l)) (lenI l)) (remI p (lenI l))) ∧ False → AOut.ret (AV.bool y.2.2.2) = AOut.ret (AV.bool true))))))))))))))) := by kernel_rfl
theorem PeepRules_call : CallOK Try.prog (acall tab fs_alive specs_rules fns_LPeepRules 100 20) := mkCall fsOK_alive specsOK_rules fns_LPeepRulesOK
theorem PeepRules_go (l : List (den CodeT)) (p : Int) : LawEv (acall tab fs_alive specs_rules fns_LPeepRules 100 20) 4 [.view [] CodeT l, .int .i64 p] := by
  refine ⟨?_⟩
  rw [PeepRules_eq]
  have h0 := lenI_nn l
  rw [ifB_def]
  refine ⟨fun _ => rfl, fun hg => ?_⟩
  have hg : 0 < lenI l ∧ lenI l ≤ 100 := by
    simp only [selB_t, Bool.or_eq_false_iff, eqB_def, ltB_def, decide_eq_false_iff_not] at hg
    omega
  have hr : remI p (lenI l) = p.tmod (lenI l) := rfl
  have h1 := Int.tmod_lt_of_pos p hg.1
  have h2 : -(lenI l) < p.tmod (lenI l) := by
    have := Int.tmod_lt_of_pos (-p) hg.1
    rw [Int.neg_tmod] at this
    omega
  have ea : addW .i64 (remI p (lenI l)) (lenI l) = remI p (lenI l) + lenI l := addW64 (by rw [hr]; omega) (by rw [hr]; omega)
  rw [← hr] at h1 h2
  rw [ea]
  have hin : inI (selI (ltB (remI p (lenI l)) 0) (remI p (lenI l) + lenI l) (remI p (lenI l))) (lenI l) := by
    unfold inI
    rw [selI_def, ltB_def]
    simp only [decide_eq_true_eq]
    split <;> omega
  generalize selI (ltB (remI p (lenI l)) 0) (remI p (lenI l) + lenI l) (remI p (lenI l)) = q at hin ⊢
  have hz : nzI (lenI l) := by unfold nzI; omega
  simp only [eqI_def, eqL_def, eqD_def, need_def, true_and, and_true, hz, hin, hg.2]
  
  exact ⟨fun _ _ => trivial, fun y hy => hy.2.elim⟩
theorem PeepRules_ev : ∀ xs : DT [(.list (.prod (.int .i64) (.prod (.int .i64) (.prod (.int .i64) (.int .i64))))), (.int .i64)], wfs [(.list (.prod (.int .i64) (.prod (.int .i64) (.prod (.int .i64) (.int .i64))))), (.int .i64)] xs → LawEv (acall tab fs_alive specs_rules fns_LPeepRules 100 20) 4 (argsA tab #[22, 3].toList [(.list (.prod (.int .i64) (.prod (.int .i64) (.prod (.int .i64) (.int .i64))))), (.int .i64)] xs) := by
  rintro ⟨l, p, ⟨⟩⟩ hw
  exact PeepRules_go l p



theorem PeepRules_own : ownKnob Try.prog.godebug = none := by kernel_rfl
theorem PeepRules_kids : Kids Try.prog (· < Try.prog.types.size) := kids_rows (by kernel_rfl) (by kernel_rfl)
theorem PeepRules_full : ∀ t e, t < Try.prog.types.size → Try.prog.underlying t = some (.slice e) → 0 < Try.prog.cellsOf e := slices_full_of _ (by kernel_rfl)

theorem PeepRules_lifted (os : Os) (started : os.Started) (H : Type) (enc : TypeId × Value → H) :
    ReturnsInHanded {} Try.checked os 4 .any (Rows.peepRulesSpec.pre6 enc Try.prog Try.f4 Rows.peepRulesRow.domain false) (Rows.peepRulesSpec.post enc Try.prog Try.f4 false true false false) := by
  refine returnsInHanded_of_change_shaped (C := Try.checked) PeepRules_own started (by kernel_rfl) Try.func4
    (ChangeSpec.witness6 (enc := enc) (C := Try.checked) false ⟨#[], #[(Value.slice none 0 0), (Value.int IntKind.i64 0)], []⟩ 8 (by kernel_rfl) (by kernel_rfl) (by kernel_rfl) (by kernel_rfl)) ?_
  intro W base args ds gs before hval hW _ hwt _ _
  refine law_contract' (P := Try.prog) (fn := Try.f4) (s := Rows.peepRulesSpec) (tb := 4) (Ts := [(.list (.prod (.int .i64) (.prod (.int .i64) (.prod (.int .i64) (.int .i64))))), (.int .i64)]) (call := (acall tab fs_alive specs_rules fns_LPeepRules 100 20)) (f := 4) tabOK PeepRules_call PeepRules_kids PeepRules_full Try.params4 (by decide +kernel) rfl rfl Try.underlying4 ?_ (by kernel_rfl) PeepRules_ev hval hW hwt
  intro ds hl
  match ds, hl with
  | [d0, d1], _ => rfl

theorem PeepRules_holds : Rows.PeepRulesSaid :=
  OpenClaim.holds_of_wide 4 Try.f4 rfl rfl rfl rfl rfl rfl rfl ⟨rfl, rfl, rfl, rfl, rfl⟩ rfl rfl rfl rfl rfl (by kernel_rfl) Try.func4 (by kernel_rfl)
    (of_decide_eq_true (by kernel_rfl)) (by unfold Func.isWrapper; first | (rw [if_pos (by decide +kernel)]; kernel_rfl) | (rw [if_neg (by decide +kernel)]; exact ⟨rfl, rfl⟩))
    (fun os started H enc _ => PeepRules_lifted os started H enc)

end Go.Proofs.Ytkdemkkepepbdaa
