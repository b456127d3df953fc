/- Ytgifbceiaibejaa: the law RingPieces returns true for every input, and its arguments read as they did: no condition. -/
import Derived.Test.YtgifbceiaibejaaRows
import Derived.Test.YtgifbceiaibejaaSxV
import Derived.Test.YtgifbceiaibejaaSmRingE
import Derived.HandedShaped
namespace Go.Proofs.Ytgifbceiaibejaa
open Go.ChangeShapes Go.WideShapes Go.ChangeAt Go.RowKit Sx
set_option maxRecDepth 100000
set_option linter.unusedVariables false
set_option linter.unusedSimpArgs false
set_option maxHeartbeats 4000000

abbrev X_pcs := Int × Int × Int × List (den (.int .i64)) × Int × Int × List (den (.int .i64)) × Int × Int × Int × Int × Bool
def sh_pcs : X_pcs → St := fun x => match x with | (i, p, cn, xs, q, bn, ys, now, mo, nod, mod, r) => ⟨setL (rep .bad 184) [(17, .int .i64 i), (9, .ptr 1 0), (11, .ptr 3 0), (13, .ptr 4 0), (15, .ptr 5 0)], [.row 3 (.int .i64) xs [], .var [.own 0, .int .i64 p, .int .i64 cn], .row 3 (.int .i64) ys [], .var [.own 2, .int .i64 q, .int .i64 bn], .var [.int .i64 now, .int .i64 mo], .var [.int .i64 nod, .int .i64 mod]], [0, 1, 2, 3, 4, 5, 6, 7, 8], [0, 1, 2, 3, 4, 5, 6, 7, 8]⟩
def shr_pcs : X_pcs → St := fun x => match x with | (i, p, cn, xs, q, bn, ys, now, mo, nod, mod, r) => ⟨setL (rep .bad 184) [(17, .int .i64 i), (8, .bool r), (9, .ptr 1 0), (11, .ptr 3 0), (13, .ptr 4 0), (15, .ptr 5 0)], [.row 3 (.int .i64) xs [], .var [.own 0, .int .i64 p, .int .i64 cn], .row 3 (.int .i64) ys [], .var [.own 2, .int .i64 q, .int .i64 bn], .var [.int .i64 now, .int .i64 mo], .var [.int .i64 nod, .int .i64 mod]], [0, 1, 2, 3, 4, 5, 6, 7, 8], [0, 1, 2, 3, 4, 5, 6, 7, 8]⟩
def sx_pcs : AExit → X_pcs → St := fun e => match e with | .ret => shr_pcs | _ => sh_pcs
def nx_pcs (σ : St) : X_pcs := (gI σ 17, cI σ 1 1, cI σ 1 2, rV (.int .i64) σ 0, cI σ 3 1, cI σ 3 2, rV (.int .i64) σ 2, cI σ 4 0, cI σ 4 1, cI σ 5 0, cI σ 5 1, gB σ 8)
def Pre_pcs : X_pcs → Prop := fun x => match x with | (i, p, cn, xs, q, bn, ys, now, mo, nod, mod, r) => i = 0 ∧ ringOK xs p cn ∧ (ys = xs ∧ q = p ∧ bn = cn) ∧ nod = now
def E0_pcs : X_pcs → X_pcs → Prop := fun x y => match x, y with | (i0, p0, cn0, xs0, q0, bn0, ys0, now0, mo0, nod0, mod0, r0), (i, p, cn, xs, q, bn, ys, now, mo, nod, mod, r) => (p = p0 ∧ cn = cn0 ∧ xs = xs0 ∧ q = q0 ∧ bn = bn0 ∧ ys = ys0 ∧ now = now0 ∧ mo = mo0 ∧ nod = nod0 ∧ mod = mod0) ∧ (True)
def R_pcs : X_pcs → X_pcs → Prop := fun x y => match x, y with | (i0, p0, cn0, xs0, q0, bn0, ys0, now0, mo0, nod0, mod0, r0), (i, p, cn, xs, q, bn, ys, now, mo, nod, mod, r) => (p = p0 ∧ cn = cn0 ∧ xs = xs0 ∧ q = q0 ∧ bn = bn0 ∧ ys = ys0 ∧ now = now0 ∧ mo = mo0 ∧ nod = nod0 ∧ mod = mod0) ∧ (False)
def D_pcs : X_pcs → LEnds X_pcs := fun x => ⟨[(0, E0_pcs x)], R_pcs x⟩
noncomputable def S_pcs : Summ := summN sh_pcs sx_pcs nx_pcs Pre_pcs D_pcs
def Inv_pcs : X_pcs → X_pcs → Prop := fun x y => match x, y with | (i0, p0, cn0, xs0, q0, bn0, ys0, now0, mo0, nod0, mod0, r0), (i, p, cn, xs, q, bn, ys, now, mo, nod, mod, r) => (p = p0 ∧ cn = cn0 ∧ xs = xs0 ∧ q = q0 ∧ bn = bn0 ∧ ys = ys0 ∧ now = now0 ∧ mo = mo0 ∧ nod = nod0 ∧ mod = mod0) ∧ (0 ≤ i ∧ i ≤ cn)
def M_pcs : X_pcs → X_pcs → Nat := fun x y => match x, y with | (i0, p0, cn0, xs0, q0, bn0, ys0, now0, mo0, nod0, mod0, r0), (i, p, cn, xs, q, bn, ys, now, mo, nod, mod, r) => (cn - i).toNat
theorem body_pcs (Inv : X_pcs → Prop) (meas : X_pcs → Nat) (nn : Nat) (EE0 RR : X_pcs → Prop) (i : Int) (p : Int) (cn : Int) (xs : List (den (.int .i64))) (q : Int) (bn : Int) (ys : List (den (.int .i64))) (now : Int) (mo : Int) (nod : Int) (mod : Int) (r : Bool) : awp tab fs_rnow (acall tab fs_rnow specs_push fns 100 20) [] 100 (loopAt Try.f5 25) (bodyN sh_pcs sx_pcs nx_pcs Inv meas nn ⟨[(0, EE0)], RR⟩) (sh_pcs (i, p, cn, xs, q, bn, ys, now, mo, nod, mod, r)) =
  (need (ringOK xs p cn) (ifB (ltB i cn) (ifB (selB (selB (eqB (lenI xs) 0) true (ltB i 0)) true (leB cn i)) (ifB (selB (selB (eqB (lenI ys) 0) true (ltB i 0)) true
    (leB bn i)) (eqL false false (eqI i i (eqD xs xs (eqI p p (eqI cn cn (eqD ys ys (eqI q q (eqI bn bn (eqI now now (eqI mo mo (eqI nod nod (eqI mod mod (RR (i, p,
    cn, xs, q, bn, ys, now, mo, nod, mod, false)))))))))))))) (need (nzI (lenI ys)) (need (inI (remI (addW IntKind.i64 (subW IntKind.i64 (subW IntKind.i64 q 1) i) (mulW
    IntKind.i64 2 (lenI ys))) (lenI ys)) (lenI ys)) (need (inI (remI (addW IntKind.i64 (subW IntKind.i64 (subW IntKind.i64 q 1) i) (mulW IntKind.i64 2 (lenI ys))) (lenI
    ys)) (lenI ys)) (ifB (selB (selB (notB (eqB 0 (nth (Ty.int IntKind.i64) ys (remI (addW IntKind.i64 (subW IntKind.i64 (subW IntKind.i64 q 1) i) (mulW IntKind.i64
    2 (lenI ys))) (lenI ys))))) true true) true false) (eqL false false (eqI i i (eqD xs xs (eqI p p (eqI cn cn (eqD ys ys (eqI q q (eqI bn bn (eqI now now (eqI mo mo
    (eqI nod nod (eqI mod mod (RR (i, p, cn, xs, q, bn, ys, now, mo, nod, mod, false)))))))))))))) (eqI (addW IntKind.i64 i 1) (addW IntKind.i64 i 1) (eqD xs xs (eqI
    p p (eqI cn cn (eqD ys ys (eqI q q (eqI bn bn (eqI now now (eqI mo mo (eqI nod nod (eqI mod mod (Inv (addW IntKind.i64 i 1, p, cn, xs, q, bn, ys, now, mo, nod, mod,
    false) ∧ meas (addW IntKind.i64 i 1, p, cn, xs, q, bn, ys, now, mo, nod, mod, false) < nn))))))))))))))))) (need (nzI (lenI xs)) (need (inI (remI (addW IntKind.i64
    (subW IntKind.i64 (subW IntKind.i64 p 1) i) (mulW IntKind.i64 2 (lenI xs))) (lenI xs)) (lenI xs)) (need (inI (remI (addW IntKind.i64 (subW IntKind.i64 (subW IntKind.i64
    p 1) i) (mulW IntKind.i64 2 (lenI xs))) (lenI xs)) (lenI xs)) (ifB (selB (selB (eqB (lenI ys) 0) true (ltB i 0)) true (leB bn i)) (ifB (selB (selB (notB (eqB (nth
    (Ty.int IntKind.i64) xs (remI (addW IntKind.i64 (subW IntKind.i64 (subW IntKind.i64 p 1) i) (mulW IntKind.i64 2 (lenI xs))) (lenI xs))) 0)) true false) true true)
    (eqL false false (eqI i i (eqD xs xs (eqI p p (eqI cn cn (eqD ys ys (eqI q q (eqI bn bn (eqI now now (eqI mo mo (eqI nod nod (eqI mod mod (RR (i, p, cn, xs, q, bn,
    ys, now, mo, nod, mod, false)))))))))))))) (eqI (addW IntKind.i64 i 1) (addW IntKind.i64 i 1) (eqD xs xs (eqI p p (eqI cn cn (eqD ys ys (eqI q q (eqI bn bn (eqI
    now now (eqI mo mo (eqI nod nod (eqI mod mod (Inv (addW IntKind.i64 i 1, p, cn, xs, q, bn, ys, now, mo, nod, mod, false) ∧ meas (addW IntKind.i64 i 1, p, cn, xs,
    q, bn, ys, now, mo, nod, mod, false) < nn))))))))))))) (need (nzI (lenI ys)) (need (inI (remI (addW IntKind.i64 (subW IntKind.i64 (subW IntKind.i64 q 1) i) (mulW
    IntKind.i64 2 (lenI ys))) (lenI ys)) (lenI ys)) (need (inI (remI (addW IntKind.i64 (subW IntKind.i64 (subW IntKind.i64 q 1) i) (mulW IntKind.i64 2 (lenI ys))) (lenI
    ys)) (lenI ys)) (ifB (selB (selB (notB (eqB (nth (Ty.int IntKind.i64) xs (remI (addW IntKind.i64 (subW IntKind.i64 (subW IntKind.i64 p 1) i) (mulW IntKind.i64 2
    (lenI xs))) (lenI xs))) (nth (Ty.int IntKind.i64) ys (remI (addW IntKind.i64 (subW IntKind.i64 (subW IntKind.i64 q 1) i) (mulW IntKind.i64 2 (lenI ys))) (lenI ys)))))
    true false) true false) (eqL false false (eqI i i (eqD xs xs (eqI p p (eqI cn cn (eqD ys ys (eqI q q (eqI bn bn (eqI now now (eqI mo mo (eqI nod nod (eqI mod mod
    (RR (i, p, cn, xs, q, bn, ys, now, mo, nod, mod, false)))))))))))))) (eqI (addW IntKind.i64 i 1) (addW IntKind.i64 i 1) (eqD xs xs (eqI p p (eqI cn cn (eqD ys ys
    (eqI q q (eqI bn bn (eqI now now (eqI mo mo (eqI nod nod (eqI mod mod (Inv (addW IntKind.i64 i 1, p, cn, xs, q, bn, ys, now, mo, nod, mod, false) ∧ meas (addW IntKind.i64
    i 1, p, cn, xs, q, bn, ys, now, mo, nod, mod, false) < nn))))))))))))))))))))) (eqI i i (eqD xs xs (eqI p p (eqI cn cn (eqD ys ys (eqI q q (eqI bn bn (eqI now now
    (eqI mo mo (eqI nod nod (eqI mod mod (EE0 (i, p, cn, xs, q, bn, ys, now, mo, nod, mod, false))))))))))))))) := by kernel_rfl
theorem body_pcs_ok : ∀ x y, Pre_pcs x → Inv_pcs x y → wfS (sh_pcs y) → Hd (awp tab fs_rnow (acall tab fs_rnow specs_push fns 100 20) [] 100 (loopAt Try.f5 25) (bodyN sh_pcs sx_pcs nx_pcs (Inv_pcs x) (M_pcs x) (M_pcs x y) (D_pcs x)) (sh_pcs y)) := by
  rintro ⟨i0, p0, cn0, xs0, q0, bn0, ys0, now0, mo0, nod0, mod0, r0⟩ ⟨i, p, cn, xs, q, bn, ys, now, mo, nod, mod, r⟩ hp hI hw
  obtain ⟨⟨rfl, rfl, rfl, rfl, rfl, rfl, rfl, rfl, rfl, rfl⟩, hI⟩ := hI
  have hw_i := wfL_int hw 17 rfl
  have hw_p := wfC_int hw 1 1 rfl
  have hw_cn := wfC_int hw 1 2 rfl
  have hw_xs := wfR_row hw 0 rfl
  have hw_q := wfC_int hw 3 1 rfl
  have hw_bn := wfC_int hw 3 2 rfl
  have hw_ys := wfR_row hw 2 rfl
  have hw_now := wfC_int hw 4 0 rfl
  have hw_mo := wfC_int hw 4 1 rfl
  have hw_nod := wfC_int hw 5 0 rfl
  have hw_mod := wfC_int hw 5 1 rfl
  have hp : i0 = 0 ∧ ringOK xs p cn ∧ (ys = xs ∧ q = p ∧ bn = cn) ∧ nod = now := hp
  unfold D_pcs
  rw [body_pcs]
  refine ⟨?_⟩
  have hInv : ∀ (i : Int) (r : Bool), (0 ≤ i ∧ i ≤ cn) → Inv_pcs (i0, p, cn, xs, q, bn, ys, now, mo, nod, mod, r0) (i, p, cn, xs, q, bn, ys, now, mo, nod, mod, r) := fun _ _ h => ⟨⟨rfl, rfl, rfl, rfl, rfl, rfl, rfl, rfl, rfl, rfl⟩, h⟩
  generalize hIe : Inv_pcs (i0, p, cn, xs, q, bn, ys, now, mo, nod, mod, r0) = Inv at hInv ⊢
  have hMe : ∀ (i : Int) (r : Bool), M_pcs (i0, p, cn, xs, q, bn, ys, now, mo, nod, mod, r0) (i, p, cn, xs, q, bn, ys, now, mo, nod, mod, r) = (cn - i).toNat := fun _ _ => rfl
  generalize M_pcs (i0, p, cn, xs, q, bn, ys, now, mo, nod, mod, r0) = Me at hMe ⊢
  have hE0 : ∀ (i : Int) (r : Bool), (True) → E0_pcs (i0, p, cn, xs, q, bn, ys, now, mo, nod, mod, r0) (i, p, cn, xs, q, bn, ys, now, mo, nod, mod, r) := fun _ _ h => ⟨⟨rfl, rfl, rfl, rfl, rfl, rfl, rfl, rfl, rfl, rfl⟩, h⟩
  generalize E0_pcs (i0, p, cn, xs, q, bn, ys, now, mo, nod, mod, r0) = EE0 at hE0 ⊢
  have hR : ∀ (i : Int) (r : Bool), (False) → R_pcs (i0, p, cn, xs, q, bn, ys, now, mo, nod, mod, r0) (i, p, cn, xs, q, bn, ys, now, mo, nod, mod, r) := fun _ _ h => ⟨⟨rfl, rfl, rfl, rfl, rfl, rfl, rfl, rfl, rfl, rfl⟩, h⟩
  generalize R_pcs (i0, p, cn, xs, q, bn, ys, now, mo, nod, mod, r0) = RR at hR ⊢
  obtain ⟨p1, p2, ⟨rfl, rfl, rfl⟩, p3⟩ := hp
  have hO := p2
  unfold ringOK at hO
  obtain ⟨o1, o2, o3, o4, o5⟩ := hO
  have ei : addW .i64 i 1 = i + 1 := addW64 (by omega) (by omega)
  by_cases hk : i < bn
  · rw [ltB_t.2 hk]
    have e1 : subW .i64 q 1 = q - 1 := subW64 (by omega) (by omega)
    have e2 : subW .i64 (q - 1) i = q - 1 - i := subW64 (by omega) (by omega)
    have e3 : mulW .i64 2 (lenI ys) = 2 * lenI ys := mulW64 (by omega) (by omega)
    have e4 : addW .i64 (q - 1 - i) (2 * lenI ys) = q - 1 - i + 2 * lenI ys := addW64 (by omega) (by omega)
    have h0 : ¬ lenI ys = 0 := by omega
    have h1 : ¬ i < 0 := by omega
    have h2 : ¬ bn ≤ i := by omega
    have hr0 : 0 ≤ remI (q - 1 - i + 2 * lenI ys) (lenI ys) := by unfold remI; rw [Int.tmod_eq_emod_of_nonneg (by omega)]; exact Int.emod_nonneg _ (by omega)
    have hr1 : remI (q - 1 - i + 2 * lenI ys) (lenI ys) < lenI ys := by unfold remI; rw [Int.tmod_eq_emod_of_nonneg (by omega)]; exact Int.emod_lt_of_pos _ (by omega)
    simp only [e1, e2, e3, e4, ei, eqB_t.2 rfl]
    simp only [need_def, appL_def, ifB_def, impB_def, selB_f, selB_t, selI_def, selX_def, notB_def, andB_def, orB_def, beqB_def, ltB_def, leB_def, eqB_def, seqB_def, eqI_def, eqL_def, eqS_def, eqD_def, eqT_def, imp_def, inI_def, nzI_def, geZ_def, ret_bool, ret_int, Bool.and_eq_true, Bool.or_eq_true, Bool.not_eq_true', Bool.not_eq_false', decide_eq_true_eq, decide_eq_false_iff_not, Bool.and_eq_false_iff, Bool.or_eq_false_iff, Int.not_lt, Int.not_le, true_and, and_true, implies_true, Bool.false_eq_true, Bool.true_eq_false, false_implies, forall_const, reduceCtorEq, if_true, if_false, true_implies, false_and, and_false, false_or, or_false, true_or, or_true, hMe, h0, h1, h2]
    repeat' (first | with_reducible rfl | assumption | omega | (refine hInv _ _ ?_) | refine ⟨?_, ?_⟩ | intro _)
  · rw [ltB_f.2 (Int.not_lt.1 hk)]
    simp only [need_def, appL_def, ifB_def, impB_def, selB_f, selB_t, selI_def, selX_def, notB_def, andB_def, orB_def, beqB_def, ltB_def, leB_def, eqB_def, seqB_def, eqI_def, eqL_def, eqS_def, eqD_def, eqT_def, imp_def, inI_def, nzI_def, geZ_def, ret_bool, ret_int, Bool.and_eq_true, Bool.or_eq_true, Bool.not_eq_true', Bool.not_eq_false', decide_eq_true_eq, decide_eq_false_iff_not, Bool.and_eq_false_iff, Bool.or_eq_false_iff, Int.not_lt, Int.not_le, true_and, and_true, implies_true, Bool.false_eq_true, Bool.true_eq_false, false_implies, forall_const, reduceCtorEq, if_true, if_false, true_implies, false_and, and_false, false_or, or_false, true_or, or_true]
    repeat' (first | with_reducible rfl | assumption | omega | trivial | (exact hE0 _ _ trivial) | refine ⟨?_, ?_⟩ | intro _)
theorem summ_pcs : SummOK Try.prog (loopAt Try.f5 25) S_pcs :=
  summN_ok (L := []) (fuel := 100) tabOK fsOK_rnow (mkCall fsOK_rnow specsOK_push fnsOK) (fun C => mkDraw fsOK_rnow (mkCall fsOK_rnow specsOK_push fnsOK) C) loopsOK_nil Inv_pcs M_pcs
    (fun x hp hw => by
      obtain ⟨i, p, cn, xs, q, bn, ys, now, mo, nod, mod, r⟩ := x
      have hp : i = 0 ∧ ringOK xs p cn ∧ (ys = xs ∧ q = p ∧ bn = cn) ∧ nod = now := hp
      have hw_i := wfL_int hw 17 rfl
      have hw_p := wfC_int hw 1 1 rfl
      have hw_cn := wfC_int hw 1 2 rfl
      have hw_xs := wfR_row hw 0 rfl
      have hw_q := wfC_int hw 3 1 rfl
      have hw_bn := wfC_int hw 3 2 rfl
      have hw_ys := wfR_row hw 2 rfl
      have hw_now := wfC_int hw 4 0 rfl
      have hw_mo := wfC_int hw 4 1 rfl
      have hw_nod := wfC_int hw 5 0 rfl
      have hw_mod := wfC_int hw 5 1 rfl
      obtain ⟨rfl, h1, h2⟩ := hp
      unfold ringOK at h1
      exact ⟨⟨rfl, rfl, rfl, rfl, rfl, rfl, rfl, rfl, rfl, rfl⟩, by omega, by omega⟩)
    (body_pcs_ok)
noncomputable def fns_LRingPieces : Fns := (5, Try.f5, [(25, S_pcs)]) :: fns
theorem fn_LRingPieces : FnOK Try.prog 5 Try.f5 [(25, S_pcs)] := fnOK_loops Try.func5 (fun vs w => Try.call5 vs w) (by kernel_rfl) fun k S h => by
  simp only [List.mem_cons, Prod.mk.injEq, List.not_mem_nil, or_false] at h
  obtain ⟨rfl, rfl⟩ := h
  exact summ_pcs
theorem fns_LRingPiecesOK : FnsOK Try.prog fns_LRingPieces := fnsOK_cons fn_LRingPieces fnsOK
theorem RingPieces_eq (n most : Int) (l : List (den (.int .i64))) (k : Int) : acall tab fs_rnow specs_push fns_LRingPieces 100 20 5 [.int .i64 n, .int .i64 most, .view [] (.int .i64) l, .int .i64 k] [] (fun o _ _ _ => o = .ret (.bool true)) =
  (ifB (selB (selB (selB (selB (selB (ltB n 1) true (ltB 300 n)) true (ltB most 0)) true (ltB 200 (lenI l))) true (ltB k 0)) true (ltB (lenI l) k)) (AOut.ret (AV.bool
    true) = AOut.ret (AV.bool true)) (ifB (selB (ltB n 1) true (ltB 2000 n)) (ifB (selB (ltB n 1) true (ltB 2000 n)) (ifB (ltB most 0) (ifB (ltB most 0) (AOut.ret (AV.bool
    false) = AOut.ret (AV.bool true)) (AOut.ret (AV.bool false) = AOut.ret (AV.bool true))) (ifB (ltB most 0) (AOut.ret (AV.bool false) = AOut.ret (AV.bool true)) (AOut.ret
    (AV.bool false) = AOut.ret (AV.bool true)))) (eqI n n (need (geZ n) (need (fitA n) (ifB (ltB most 0) (ifB (ltB most 0) (AOut.ret (AV.bool false) = AOut.ret (AV.bool
    true)) (AOut.ret (AV.bool false) = AOut.ret (AV.bool true))) (ifB (ltB most 0) (AOut.ret (AV.bool false) = AOut.ret (AV.bool true)) (AOut.ret (AV.bool false) = AOut.ret
    (AV.bool true)))))))) (eqI n n (need (geZ n) (need (fitA n) (ifB (selB (ltB n 1) true (ltB 2000 n)) (ifB (ltB most 0) (ifB (ltB most 0) (AOut.ret (AV.bool false)
    = AOut.ret (AV.bool true)) (AOut.ret (AV.bool false) = AOut.ret (AV.bool true))) (ifB (ltB most 0) (AOut.ret (AV.bool false) = AOut.ret (AV.bool true)) (AOut.ret
    (AV.bool false) = AOut.ret (AV.bool true)))) (eqI n n (need (geZ n) (need (fitA n) (ifB (ltB most 0) (ifB (ltB most 0) (AOut.ret (AV.bool false) = AOut.ret (AV.bool
    true)) (AOut.ret (AV.bool false) = AOut.ret (AV.bool true))) (ifB (ltB most 0) (AOut.ret (AV.bool false) = AOut.ret (AV.bool true)) (need (ringOK (repI n (0 : Int))
    0 0) (need (leI 0 0) (need (leI 0 k) (need (leI k (lenI l)) (need (ringOK (repI n (0 : Int)) 0 0) (need (ringOK (pushX (repI n (0 : Int)) 0 0 (subL l 0 k)) (pushP
    (repI n (0 : Int)) 0 0 (subL l 0 k)) (pushN (repI n (0 : Int)) 0 0 (subL l 0 k))) (need (leI 0 k) (need (leI k (lenI l)) (need (leI (lenI l) (lenI l)) (need (ringOK
    (pushX (pushX (repI n (0 : Int)) 0 0 (subL l 0 k)) (pushP (repI n (0 : Int)) 0 0 (subL l 0 k)) (pushN (repI n (0 : Int)) 0 0 (subL l 0 k)) (@List.nil (den (Ty.int
    IntKind.i64)))) (pushP (pushX (repI n (0 : Int)) 0 0 (subL l 0 k)) (pushP (repI n (0 : Int)) 0 0 (subL l 0 k)) (pushN (repI n (0 : Int)) 0 0 (subL l 0 k)) (@List.nil
    (den (Ty.int IntKind.i64)))) (pushN (pushX (repI n (0 : Int)) 0 0 (subL l 0 k)) (pushP (repI n (0 : Int)) 0 0 (subL l 0 k)) (pushN (repI n (0 : Int)) 0 0 (subL l
    0 k)) (@List.nil (den (Ty.int IntKind.i64))))) (need (fitA (1 + lenI l)) (need (okN 0 most) (need (lenOK (lenI (appL (0 :: @List.nil (den (Ty.int IntKind.i64)))
    l))) (need (leI 0 0) (need (leI 0 k) (need (leI k (lenI l)) (need (fitA (1 + lenI (subL l 0 k))) (need (okN 0 most) (need (lenOK (lenI (appL (0 :: @List.nil (den
    (Ty.int IntKind.i64))) (subL l 0 k)))) (need (leI 0 k) (need (leI k (lenI l)) (need (leI (lenI l) (lenI l)) (need (fitA (1 + lenI (subL l k (lenI l)))) (need (okN
    (upF most 0 (appL (0 :: @List.nil (den (Ty.int IntKind.i64))) (subL l 0 k))) most) (need (lenOK (lenI (appL (0 :: @List.nil (den (Ty.int IntKind.i64))) (subL l k
    (lenI l))))) (eqI 0 0 (eqD (pushX (repI n (0 : Int)) 0 0 l) (pushX (repI n (0 : Int)) 0 0 l) (eqI (pushP (repI n (0 : Int)) 0 0 l) (pushP (repI n (0 : Int)) 0 0
    l) (eqI (pushN (repI n (0 : Int)) 0 0 l) (pushN (repI n (0 : Int)) 0 0 l) (eqD (pushX (pushX (pushX (repI n (0 : Int)) 0 0 (subL l 0 k)) (pushP (repI n (0 : Int))
    0 0 (subL l 0 k)) (pushN (repI n (0 : Int)) 0 0 (subL l 0 k)) (@List.nil (den (Ty.int IntKind.i64)))) (pushP (pushX (repI n (0 : Int)) 0 0 (subL l 0 k)) (pushP (repI
    n (0 : Int)) 0 0 (subL l 0 k)) (pushN (repI n (0 : Int)) 0 0 (subL l 0 k)) (@List.nil (den (Ty.int IntKind.i64)))) (pushN (pushX (repI n (0 : Int)) 0 0 (subL l 0
    k)) (pushP (repI n (0 : Int)) 0 0 (subL l 0 k)) (pushN (repI n (0 : Int)) 0 0 (subL l 0 k)) (@List.nil (den (Ty.int IntKind.i64)))) (subL l k (lenI l))) (pushX (pushX
    (pushX (repI n (0 : Int)) 0 0 (subL l 0 k)) (pushP (repI n (0 : Int)) 0 0 (subL l 0 k)) (pushN (repI n (0 : Int)) 0 0 (subL l 0 k)) (@List.nil (den (Ty.int IntKind.i64))))
    (pushP (pushX (repI n (0 : Int)) 0 0 (subL l 0 k)) (pushP (repI n (0 : Int)) 0 0 (subL l 0 k)) (pushN (repI n (0 : Int)) 0 0 (subL l 0 k)) (@List.nil (den (Ty.int
    IntKind.i64)))) (pushN (pushX (repI n (0 : Int)) 0 0 (subL l 0 k)) (pushP (repI n (0 : Int)) 0 0 (subL l 0 k)) (pushN (repI n (0 : Int)) 0 0 (subL l 0 k)) (@List.nil
    (den (Ty.int IntKind.i64)))) (subL l k (lenI l))) (eqI (pushP (pushX (pushX (repI n (0 : Int)) 0 0 (subL l 0 k)) (pushP (repI n (0 : Int)) 0 0 (subL l 0 k)) (pushN
    (repI n (0 : Int)) 0 0 (subL l 0 k)) (@List.nil (den (Ty.int IntKind.i64)))) (pushP (pushX (repI n (0 : Int)) 0 0 (subL l 0 k)) (pushP (repI n (0 : Int)) 0 0 (subL
    l 0 k)) (pushN (repI n (0 : Int)) 0 0 (subL l 0 k)) (@List.nil (den (Ty.int IntKind.i64)))) (pushN (pushX (repI n (0 : Int)) 0 0 (subL l 0 k)) (pushP (repI n (0
    : Int)) 0 0 (subL l 0 k)) (pushN (repI n (0 : Int)) 0 0 (subL l 0 k)) (@List.nil (den (Ty.int IntKind.i64)))) (subL l k (lenI l))) (pushP (pushX (pushX (repI n (0
    : Int)) 0 0 (subL l 0 k)) (pushP (repI n (0 : Int)) 0 0 (subL l 0 k)) (pushN (repI n (0 : Int)) 0 0 (subL l 0 k)) (@List.nil (den (Ty.int IntKind.i64)))) (pushP
    (pushX (repI n (0 : Int)) 0 0 (subL l 0 k)) (pushP (repI n (0 : Int)) 0 0 (subL l 0 k)) (pushN (repI n (0 : Int)) 0 0 (subL l 0 k)) (@List.nil (den (Ty.int IntKind.i64))))
    (pushN (pushX (repI n (0 : Int)) 0 0 (subL l 0 k)) (pushP (repI n (0 : Int)) 0 0 (subL l 0 k)) (pushN (repI n (0 : Int)) 0 0 (subL l 0 k)) (@List.nil (den (Ty.int
    IntKind.i64)))) (subL l k (lenI l))) (eqI (pushN (pushX (pushX (repI n (0 : Int)) 0 0 (subL l 0 k)) (pushP (repI n (0 : Int)) 0 0 (subL l 0 k)) (pushN (repI n (0
    : Int)) 0 0 (subL l 0 k)) (@List.nil (den (Ty.int IntKind.i64)))) (pushP (pushX (repI n (0 : Int)) 0 0 (subL l 0 k)) (pushP (repI n (0 : Int)) 0 0 (subL l 0 k))
    (pushN (repI n (0 : Int)) 0 0 (subL l 0 k)) (@List.nil (den (Ty.int IntKind.i64)))) (pushN (pushX (repI n (0 : Int)) 0 0 (subL l 0 k)) (pushP (repI n (0 : Int))
    0 0 (subL l 0 k)) (pushN (repI n (0 : Int)) 0 0 (subL l 0 k)) (@List.nil (den (Ty.int IntKind.i64)))) (subL l k (lenI l))) (pushN (pushX (pushX (repI n (0 : Int))
    0 0 (subL l 0 k)) (pushP (repI n (0 : Int)) 0 0 (subL l 0 k)) (pushN (repI n (0 : Int)) 0 0 (subL l 0 k)) (@List.nil (den (Ty.int IntKind.i64)))) (pushP (pushX (repI
    n (0 : Int)) 0 0 (subL l 0 k)) (pushP (repI n (0 : Int)) 0 0 (subL l 0 k)) (pushN (repI n (0 : Int)) 0 0 (subL l 0 k)) (@List.nil (den (Ty.int IntKind.i64)))) (pushN
    (pushX (repI n (0 : Int)) 0 0 (subL l 0 k)) (pushP (repI n (0 : Int)) 0 0 (subL l 0 k)) (pushN (repI n (0 : Int)) 0 0 (subL l 0 k)) (@List.nil (den (Ty.int IntKind.i64))))
    (subL l k (lenI l))) (eqI (upF most 0 (appL (0 :: @List.nil (den (Ty.int IntKind.i64))) l)) (upF most 0 (appL (0 :: @List.nil (den (Ty.int IntKind.i64))) l)) (eqI
    most most (eqI (upF most (upF most 0 (appL (0 :: @List.nil (den (Ty.int IntKind.i64))) (subL l 0 k))) (appL (0 :: @List.nil (den (Ty.int IntKind.i64))) (subL l k
    (lenI l)))) (upF most (upF most 0 (appL (0 :: @List.nil (den (Ty.int IntKind.i64))) (subL l 0 k))) (appL (0 :: @List.nil (den (Ty.int IntKind.i64))) (subL l k (lenI
    l)))) (eqI most most (((0 : Int) = 0 ∧ ringOK (pushX (repI n (0 : Int)) 0 0 l) (pushP (repI n (0 : Int)) 0 0 l) (pushN (repI n (0 : Int)) 0 0 l) ∧ (pushX (pushX
    (pushX (repI n (0 : Int)) 0 0 (subL l 0 k)) (pushP (repI n (0 : Int)) 0 0 (subL l 0 k)) (pushN (repI n (0 : Int)) 0 0 (subL l 0 k)) (@List.nil (den (Ty.int IntKind.i64))))
    (pushP (pushX (repI n (0 : Int)) 0 0 (subL l 0 k)) (pushP (repI n (0 : Int)) 0 0 (subL l 0 k)) (pushN (repI n (0 : Int)) 0 0 (subL l 0 k)) (@List.nil (den (Ty.int
    IntKind.i64)))) (pushN (pushX (repI n (0 : Int)) 0 0 (subL l 0 k)) (pushP (repI n (0 : Int)) 0 0 (subL l 0 k)) (pushN (repI n (0 : Int)) 0 0 (subL l 0 k)) (@List.nil
    (den (Ty.int IntKind.i64)))) (subL l k (lenI l)) = pushX (repI n (0 : Int)) 0 0 l ∧ pushP (pushX (pushX (repI n (0 : Int)) 0 0 (subL l 0 k)) (pushP (repI n (0 :
    Int)) 0 0 (subL l 0 k)) (pushN (repI n (0 : Int)) 0 0 (subL l 0 k)) (@List.nil (den (Ty.int IntKind.i64)))) (pushP (pushX (repI n (0 : Int)) 0 0 (subL l 0 k)) (pushP
    (repI n (0 : Int)) 0 0 (subL l 0 k)) (pushN (repI n (0 : Int)) 0 0 (subL l 0 k)) (@List.nil (den (Ty.int IntKind.i64)))) (pushN (pushX (repI n (0 : Int)) 0 0 (subL
    l 0 k)) (pushP (repI n (0 : Int)) 0 0 (subL l 0 k)) (pushN (repI n (0 : Int)) 0 0 (subL l 0 k)) (@List.nil (den (Ty.int IntKind.i64)))) (subL l k (lenI l)) = pushP
    (repI n (0 : Int)) 0 0 l ∧ pushN (pushX (pushX (repI n (0 : Int)) 0 0 (subL l 0 k)) (pushP (repI n (0 : Int)) 0 0 (subL l 0 k)) (pushN (repI n (0 : Int)) 0 0 (subL
    l 0 k)) (@List.nil (den (Ty.int IntKind.i64)))) (pushP (pushX (repI n (0 : Int)) 0 0 (subL l 0 k)) (pushP (repI n (0 : Int)) 0 0 (subL l 0 k)) (pushN (repI n (0
    : Int)) 0 0 (subL l 0 k)) (@List.nil (den (Ty.int IntKind.i64)))) (pushN (pushX (repI n (0 : Int)) 0 0 (subL l 0 k)) (pushP (repI n (0 : Int)) 0 0 (subL l 0 k))
    (pushN (repI n (0 : Int)) 0 0 (subL l 0 k)) (@List.nil (den (Ty.int IntKind.i64)))) (subL l k (lenI l)) = pushN (repI n (0 : Int)) 0 0 l) ∧ upF most (upF most 0
    (appL (0 :: @List.nil (den (Ty.int IntKind.i64))) (subL l 0 k))) (appL (0 :: @List.nil (den (Ty.int IntKind.i64))) (subL l k (lenI l))) = upF most 0 (appL (0 ::
    @List.nil (den (Ty.int IntKind.i64))) l)) ∧ ((∀ (y : X_pcs), (y.2.1 = pushP (repI n (0 : Int)) 0 0 l ∧ y.2.2.1 = pushN (repI n (0 : Int)) 0 0 l ∧ y.2.2.2.1 = pushX
    (repI n (0 : Int)) 0 0 l ∧ y.2.2.2.2.1 = pushP (pushX (pushX (repI n (0 : Int)) 0 0 (subL l 0 k)) (pushP (repI n (0 : Int)) 0 0 (subL l 0 k)) (pushN (repI n (0 :
    Int)) 0 0 (subL l 0 k)) (@List.nil (den (Ty.int IntKind.i64)))) (pushP (pushX (repI n (0 : Int)) 0 0 (subL l 0 k)) (pushP (repI n (0 : Int)) 0 0 (subL l 0 k)) (pushN
    (repI n (0 : Int)) 0 0 (subL l 0 k)) (@List.nil (den (Ty.int IntKind.i64)))) (pushN (pushX (repI n (0 : Int)) 0 0 (subL l 0 k)) (pushP (repI n (0 : Int)) 0 0 (subL
    l 0 k)) (pushN (repI n (0 : Int)) 0 0 (subL l 0 k)) (@List.nil (den (Ty.int IntKind.i64)))) (subL l k (lenI l)) ∧ y.2.2.2.2.2.1 = pushN (pushX (pushX (repI n (0
    : Int)) 0 0 (subL l 0 k)) (pushP (repI n (0 : Int)) 0 0 (subL l 0 k)) (pushN (repI n (0 : Int)) 0 0 (subL l 0 k)) (@List.nil (den (Ty.int IntKind.i64)))) (pushP
    (pushX (repI n (0 : Int)) 0 0 (subL l 0 k)) (pushP (repI n (0 : Int)) 0 0 (subL l 0 k)) (pushN (repI n (0 : Int)) 0 0 (subL l 0 k)) (@List.nil (den (Ty.int IntKind.i64))))
    (pushN (pushX (repI n (0 : Int)) 0 0 (subL l 0 k)) (pushP (repI n (0 : Int)) 0 0 (subL l 0 k)) (pushN (repI n (0 : Int)) 0 0 (subL l 0 k)) (@List.nil (den (Ty.int
    IntKind.i64)))) (subL l k (lenI l)) ∧ y.2.2.2.2.2.2.1 = pushX (pushX (pushX (repI n (0 : Int)) 0 0 (subL l 0 k)) (pushP (repI n (0 : Int)) 0 0 (subL l 0 k)) (pushN
    (repI n (0 : Int)) 0 0 (subL l 0 k)) (@List.nil (den (Ty.int IntKind.i64)))) (pushP (pushX (repI n (0 : Int)) 0 0 (subL l 0 k)) (pushP (repI n (0 : Int)) 0 0 (subL
    l 0 k)) (pushN (repI n (0 : Int)) 0 0 (subL l 0 k)) (@List.nil (den (Ty.int IntKind.i64)))) (pushN (pushX (repI n (0 : Int)) 0 0 (subL l 0 k)) (pushP (repI n (0
    : Int)) 0 0 (subL l 0 k)) (pushN (repI n (0 : Int)) 0 0 (subL l 0 k)) (@List.nil (den (Ty.int IntKind.i64)))) (subL l k (lenI l)) ∧ y.2.2.2.2.2.2.2.1 = upF most
    0 (appL (0 :: @List.nil (den (Ty.int IntKind.i64))) l) ∧ y.2.2.2.2.2.2.2.2.1 = most ∧ y.2.2.2.2.2.2.2.2.2.1 = upF most (upF most 0 (appL (0 :: @List.nil (den (Ty.int
    IntKind.i64))) (subL l 0 k))) (appL (0 :: @List.nil (den (Ty.int IntKind.i64))) (subL l k (lenI l))) ∧ y.2.2.2.2.2.2.2.2.2.2.1 = most) ∧ True → need (ringOK y.2.2.2.1
    y.2.1 y.2.2.1) (need (ringOK y.2.2.2.2.2.2.1 y.2.2.2.2.1 y.2.2.2.2.2.1) (AOut.ret (AV.bool (selB (eqB y.2.2.1 y.2.2.2.2.2.1) (eqB y.2.2.2.2.2.2.2.1 y.2.2.2.2.2.2.2.2.2.1)
    false)) = AOut.ret (AV.bool true)))) ∧ True) ∧ ∀ (y : X_pcs), (y.2.1 = pushP (repI n (0 : Int)) 0 0 l ∧ y.2.2.1 = pushN (repI n (0 : Int)) 0 0 l ∧ y.2.2.2.1 = pushX
    (repI n (0 : Int)) 0 0 l ∧ y.2.2.2.2.1 = pushP (pushX (pushX (repI n (0 : Int)) 0 0 (subL l 0 k)) (pushP (repI n (0 : Int)) 0 0 (subL l 0 k)) (pushN (repI n (0 :
    Int)) 0 0 (subL l 0 k)) (@List.nil (den (Ty.int IntKind.i64)))) (pushP (pushX (repI n (0 : Int)) 0 0 (subL l 0 k)) (pushP (repI n (0 : Int)) 0 0 (subL l 0 k)) (pushN
    (repI n (0 : Int)) 0 0 (subL l 0 k)) (@List.nil (den (Ty.int IntKind.i64)))) (pushN (pushX (repI n (0 : Int)) 0 0 (subL l 0 k)) (pushP (repI n (0 : Int)) 0 0 (subL
    l 0 k)) (pushN (repI n (0 : Int)) 0 0 (subL l 0 k)) (@List.nil (den (Ty.int IntKind.i64)))) (subL l k (lenI l)) ∧ y.2.2.2.2.2.1 = pushN (pushX (pushX (repI n (0
    : Int)) 0 0 (subL l 0 k)) (pushP (repI n (0 : Int)) 0 0 (subL l 0 k)) (pushN (repI n (0 : Int)) 0 0 (subL l 0 k)) (@List.nil (den (Ty.int IntKind.i64)))) (pushP
    (pushX (repI n (0 : Int)) 0 0 (subL l 0 k)) (pushP (repI n (0 : Int)) 0 0 (subL l 0 k)) (pushN (repI n (0 : Int)) 0 0 (subL l 0 k)) (@List.nil (den (Ty.int IntKind.i64))))
    (pushN (pushX (repI n (0 : Int)) 0 0 (subL l 0 k)) (pushP (repI n (0 : Int)) 0 0 (subL l 0 k)) (pushN (repI n (0 : Int)) 0 0 (subL l 0 k)) (@List.nil (den (Ty.int
    IntKind.i64)))) (subL l k (lenI l)) ∧ y.2.2.2.2.2.2.1 = pushX (pushX (pushX (repI n (0 : Int)) 0 0 (subL l 0 k)) (pushP (repI n (0 : Int)) 0 0 (subL l 0 k)) (pushN
    (repI n (0 : Int)) 0 0 (subL l 0 k)) (@List.nil (den (Ty.int IntKind.i64)))) (pushP (pushX (repI n (0 : Int)) 0 0 (subL l 0 k)) (pushP (repI n (0 : Int)) 0 0 (subL
    l 0 k)) (pushN (repI n (0 : Int)) 0 0 (subL l 0 k)) (@List.nil (den (Ty.int IntKind.i64)))) (pushN (pushX (repI n (0 : Int)) 0 0 (subL l 0 k)) (pushP (repI n (0
    : Int)) 0 0 (subL l 0 k)) (pushN (repI n (0 : Int)) 0 0 (subL l 0 k)) (@List.nil (den (Ty.int IntKind.i64)))) (subL l k (lenI l)) ∧ y.2.2.2.2.2.2.2.1 = upF most
    0 (appL (0 :: @List.nil (den (Ty.int IntKind.i64))) l) ∧ y.2.2.2.2.2.2.2.2.1 = most ∧ y.2.2.2.2.2.2.2.2.2.1 = upF most (upF most 0 (appL (0 :: @List.nil (den (Ty.int
    IntKind.i64))) (subL l 0 k))) (appL (0 :: @List.nil (den (Ty.int IntKind.i64))) (subL l k (lenI l))) ∧ y.2.2.2.2.2.2.2.2.2.2.1 = most) ∧ False → AOut.ret (AV.bool
    y.2.2.2.2.2.2.2.2.2.2.2) = AOut.ret (AV.bool true))))))))))))))))))))))))))))))))))))))))))))))))) := by kernel_rfl
theorem RingPieces_call : CallOK Try.prog (acall tab fs_rnow specs_push fns_LRingPieces 100 20) := mkCall fsOK_rnow specsOK_push fns_LRingPiecesOK
theorem RingPieces_go (n most : Int) (l : List (den (.int .i64))) (k : Int) (hmost : most ≤ 9223372036854775807) : LawEv (acall tab fs_rnow specs_push fns_LRingPieces 100 20) 5 [.int .i64 n, .int .i64 most, .view [] (.int .i64) l, .int .i64 k] := by
  refine ⟨?_⟩
  rw [RingPieces_eq]
  rw [ifB_def]
  refine ⟨fun _ => rfl, fun hg => ?_⟩
  simp only [selB_t, ltB_def, Bool.or_eq_false_iff, decide_eq_false_iff_not, Int.not_lt] at hg
  obtain ⟨⟨⟨⟨⟨g1, g2⟩, g3⟩, g4⟩, g5⟩, g6⟩ := hg
  have hAB := sub_app (l := l) g5 g6
  have hll := lenI_nn l
  have lA : lenI (subL l 0 k) + lenI (subL l k (lenI l)) = lenI l := by rw [← lenI_app, hAB]
  have lk : leI k (lenI l) := g6
  have l0 : leI 0 k := g5
  have l1 : leI 0 0 := Int.le_refl _
  have l2 : leI (lenI l) (lenI l) := Int.le_refl _
  obtain ⟨A, hA⟩ : ∃ A, subL l 0 k = A := ⟨_, rfl⟩
  obtain ⟨B, hB⟩ : ∃ B, subL l k (lenI l) = B := ⟨_, rfl⟩
  simp only [hA, hB] at hAB lA ⊢
  have a0 := lenI_nn A
  have b0 := lenI_nn B
  have hr : lenI (repI n (0 : Int)) = n := by simp [lenI, repI]; omega
  have g6 : geZ n := by unfold geZ; omega
  have g7 : fitA n := by unfold fitA; omega
  have g8 : ¬ n < 1 := by omega
  have g9 : ¬ 2000 < n := by omega
  have g10 : ¬ most < 0 := by omega
  have hR0 : ringOK (repI n (0 : Int)) 0 0 := by unfold ringOK; rw [hr]; omega
  have r1 : ∀ (xs : List Int) (p c : Int), pushX xs p c (@List.nil (den (.int .i64))) = xs := fun _ _ _ => rfl
  have r2 : ∀ (xs : List Int) (p c : Int), pushP xs p c (@List.nil (den (.int .i64))) = p := fun _ _ _ => rfl
  have r3 : ∀ (xs : List Int) (p c : Int), pushN xs p c (@List.nil (den (.int .i64))) = c := fun _ _ _ => rfl
  have e1 : pushX (pushX (repI n (0 : Int)) 0 0 A) (pushP (repI n (0 : Int)) 0 0 A) (pushN (repI n (0 : Int)) 0 0 A) B = pushX (repI n (0 : Int)) 0 0 l := by
    unfold pushX pushP pushN; rw [← hAB, pushG_app]
  have e2 : pushP (pushX (repI n (0 : Int)) 0 0 A) (pushP (repI n (0 : Int)) 0 0 A) (pushN (repI n (0 : Int)) 0 0 A) B = pushP (repI n (0 : Int)) 0 0 l := by
    unfold pushX pushP pushN; rw [← hAB, pushG_app]
  have e3 : pushN (pushX (repI n (0 : Int)) 0 0 A) (pushP (repI n (0 : Int)) 0 0 A) (pushN (repI n (0 : Int)) 0 0 A) B = pushN (repI n (0 : Int)) 0 0 l := by
    unfold pushX pushP pushN; rw [← hAB, pushG_app]
  have hR1 : ringOK (pushX (repI n (0 : Int)) 0 0 A) (pushP (repI n (0 : Int)) 0 0 A) (pushN (repI n (0 : Int)) 0 0 A) := pushG_ok _ _ _ _ hR0
  have hR2 : ringOK (pushX (repI n (0 : Int)) 0 0 l) (pushP (repI n (0 : Int)) 0 0 l) (pushN (repI n (0 : Int)) 0 0 l) := pushG_ok _ _ _ _ hR0
  have u0 : ∀ (now : Int) (m : List Int), upF most now ((0 : Int) :: m) = upG most now m := fun now m => by
    unfold upF; rw [if_neg (by simp)]; simp only [upG]; rw [if_neg (by omega)]
  have e4 : upF most (upF most 0 ((0 : Int) :: A)) ((0 : Int) :: B) = upF most 0 ((0 : Int) :: l) := by
    rw [u0, u0, u0, ← upG_app, hAB]
  have k0 : okN 0 most ∨ ¬ most ≤ 9223372036854775807 := by
    by_cases h : most ≤ 9223372036854775807
    · left; unfold okN; omega
    · right; exact h
  have k1 : okN 0 most := by
    rcases k0 with h | h
    · exact h
    · exact absurd hmost h
  have k2 : okN (upF most 0 ((0 : Int) :: A)) most := by rw [u0]; exact upG_ok most A 0 k1
  have hc : ∀ (x : List Int), ([(0 : Int)] : List Int) ++ x = (0 : Int) :: x := fun x => rfl
  have hc1 : ∀ (x : List Int), lenI ((0 : Int) :: x) = lenI x + 1 := fun x => len_cons
  have f1 : fitA (1 + lenI l) := by unfold fitA; omega
  have f2 : fitA (1 + lenI A) := by unfold fitA; omega
  have f3 : fitA (1 + lenI B) := by unfold fitA; omega
  have f4 : lenOK (lenI l + 1) := by unfold lenOK; omega
  have f5 : lenOK (lenI A + 1) := by unfold lenOK; omega
  have f6 : lenOK (lenI B + 1) := by unfold lenOK; omega
  have a1 : appL ((0 : Int) :: @List.nil (den (.int .i64))) l = (0 : Int) :: l := rfl
  have a2 : appL ((0 : Int) :: @List.nil (den (.int .i64))) A = (0 : Int) :: A := rfl
  have a3 : appL ((0 : Int) :: @List.nil (den (.int .i64))) B = (0 : Int) :: B := rfl
  simp only [r1, r2, r3, e1, e2, e3, a1, a2, a3, e4, hc1]
  rw [ltB_f.2 g1, ltB_f.2 g3, ltB_f.2 (Int.not_lt.1 g9)]
  simp only [need_def, appL_def, ifB_def, impB_def, selB_f, selB_t, selI_def, selX_def, notB_def, andB_def, orB_def, beqB_def, ltB_def, leB_def, eqB_def, seqB_def, eqI_def, eqL_def, eqS_def, eqD_def, eqT_def, imp_def, inI_def, nzI_def, geZ_def, ret_bool, ret_int, Bool.and_eq_true, Bool.or_eq_true, Bool.not_eq_true', Bool.not_eq_false', decide_eq_true_eq, decide_eq_false_iff_not, Bool.and_eq_false_iff, Bool.or_eq_false_iff, Int.not_lt, Int.not_le, true_and, and_true, implies_true, Bool.false_eq_true, Bool.true_eq_false, false_implies, forall_const, reduceCtorEq, if_true, if_false, true_implies, false_and, and_false, false_or, or_false, true_or, or_true, l0, l1, l2, lk, g6, g7, hR0, hR1, hR2, f1, f2, f3, f4, f5, f6, k1, k2]
  refine ⟨by omega, by omega, fun y hy => ?_⟩
  obtain ⟨i, p, c, xs, q, b, ys, now, mo, nod, mod, r⟩ := y
  dsimp only at hy ⊢
  obtain ⟨rfl, rfl, rfl, rfl, rfl, rfl, rfl, rfl, rfl, rfl⟩ := hy
  exact ⟨hR2, hR2, rfl, rfl⟩
theorem RingPieces_ev : ∀ xs : DT [(.int .i64), (.int .i64), (.list (.int .i64)), (.int .i64)], wfs [(.int .i64), (.int .i64), (.list (.int .i64)), (.int .i64)] xs → LawEv (acall tab fs_rnow specs_push fns_LRingPieces 100 20) 5 (argsA tab #[3, 3, 22, 3].toList [(.int .i64), (.int .i64), (.list (.int .i64)), (.int .i64)] xs) := by
  rintro ⟨n, most, l, k, ⟨⟩⟩ hw
  exact RingPieces_go n most l k (has64r hw.2.1).2



theorem RingPieces_own : ownKnob Try.prog.godebug = none := by kernel_rfl
theorem RingPieces_kids : Kids Try.prog (· < Try.prog.types.size) := kids_rows (by kernel_rfl) (by kernel_rfl)
theorem RingPieces_full : ∀ t e, t < Try.prog.types.size → Try.prog.underlying t = some (.slice e) → 0 < Try.prog.cellsOf e := slices_full_of _ (by kernel_rfl)

theorem RingPieces_lifted (os : Os) (started : os.Started) (H : Type) (enc : TypeId × Value → H) :
    ReturnsInHanded {} Try.checked os 5 .any (Rows.ringPiecesSpec.pre6 enc Try.prog Try.f5 Rows.ringPiecesRow.domain false) (Rows.ringPiecesSpec.post enc Try.prog Try.f5 false true false false) := by
  refine returnsInHanded_of_change_shaped (C := Try.checked) RingPieces_own started (by kernel_rfl) Try.func5
    (ChangeSpec.witness6 (enc := enc) (C := Try.checked) false ⟨#[], #[(Value.int IntKind.i64 0), (Value.int IntKind.i64 0), (Value.slice none 0 0), (Value.int IntKind.i64 0)], []⟩ 8 (by kernel_rfl) (by kernel_rfl) (by kernel_rfl) (by kernel_rfl)) ?_
  intro W base args ds gs before hval hW _ hwt _ _
  refine law_contract' (P := Try.prog) (fn := Try.f5) (s := Rows.ringPiecesSpec) (tb := 4) (Ts := [(.int .i64), (.int .i64), (.list (.int .i64)), (.int .i64)]) (call := (acall tab fs_rnow specs_push fns_LRingPieces 100 20)) (f := 5) tabOK RingPieces_call RingPieces_kids RingPieces_full Try.params5 (by decide +kernel) rfl rfl Try.underlying4 ?_ (by kernel_rfl) RingPieces_ev hval hW hwt
  intro ds hl
  match ds, hl with
  | [d0, d1, d2, d3], _ => rfl

theorem RingPieces_holds : Rows.RingPiecesSaid :=
  OpenClaim.holds_of_wide 5 Try.f5 rfl rfl rfl rfl rfl rfl rfl ⟨rfl, rfl, rfl, rfl, rfl⟩ rfl rfl rfl rfl rfl (by kernel_rfl) Try.func5 (by kernel_rfl)
    (of_decide_eq_true (by kernel_rfl)) (by unfold Func.isWrapper; first | (rw [if_pos (by decide +kernel)]; kernel_rfl) | (rw [if_neg (by decide +kernel)]; exact ⟨rfl, rfl⟩))
    (fun os started H enc _ => RingPieces_lifted os started H enc)

end Go.Proofs.Ytgifbceiaibejaa
