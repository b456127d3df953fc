/- The rings: what their functions come to. -/
import Derived.Test.YtgifbceiaibejaaSmRingC
namespace Go.Proofs.Ytgifbceiaibejaa.Sx
open Go.RowKit
set_option maxRecDepth 100000
set_option maxHeartbeats 4000000
set_option linter.unusedVariables false
set_option linter.unusedSimpArgs false
def ringOK (xs : List Int) (p n : Int) : Prop := 0 ≤ p ∧ p < lenI xs ∧ 0 ≤ n ∧ n ≤ lenI xs ∧ lenI xs ≤ 2000
/-- what pushing leaves: cells, place, number -/
def pushG : List Int → Int → Int → List Int → List Int × Int × Int
  | xs, p, n, [] => (xs, p, n)
  | xs, p, n, v :: l => pushG (setI xs p v) (if p + 1 = lenI xs then 0 else p + 1) (if n + 1 ≤ lenI xs then n + 1 else lenI xs) l
def pushX (xs : List Int) (p n : Int) (l : List Int) : List Int := (pushG xs p n l).1
def pushP (xs : List Int) (p n : Int) (l : List Int) : Int := (pushG xs p n l).2.1
def pushN (xs : List Int) (p n : Int) (l : List Int) : Int := (pushG xs p n l).2.2
theorem lenI_setI {xs : List Int} {i v : Int} : lenI (setI xs i v) = lenI xs := by simp [lenI, setI]
theorem ring_rem {p n : Int} (h0 : 0 ≤ p) (h : p < n) : remI (p + 1) n = if p + 1 = n then 0 else p + 1 := by
  unfold remI
  split
  · rename_i e; rw [e]; exact Int.tmod_self
  · exact Int.tmod_eq_of_lt (by omega) (by omega)
abbrev X_pushL := List (den (.int .i64)) × Int × Int × List (den (.int .i64)) × Int × Int
def sh_pushL : X_pushL → St := fun x => match x with | (xs, p, n, l, len, i) => ⟨setL (rep .bad 53) [(8, .view [2] (.int .i64) l), (9, .int .i64 len), (10, .int .i64 i), (0, .ptr 0 0)], [.var [.own 1, .int .i64 p, .int .i64 n], .row 3 (.int .i64) xs []], [], [0, 1]⟩
def sx_pushL : AExit → X_pushL → St := fun _ => sh_pushL
def nx_pushL (σ : St) : X_pushL := (rV (.int .i64) σ 1, cI σ 0 1, cI σ 0 2, gV (.int .i64) σ 8, gI σ 9, gI σ 10)
def Pre_pushL : X_pushL → Prop := fun x => match x with | (xs, p, n, l, len, i) => i = 0 ∧ len = lenI l ∧ ringOK xs p n
def E0_pushL : X_pushL → X_pushL → Prop := fun x y => match x, y with | (xs0, p0, n0, l0, len0, i0), (xs, p, n, l, len, i) => (l = l0 ∧ len = len0) ∧ (xs = pushX xs0 p0 n0 l ∧ p = pushP xs0 p0 n0 l ∧ n = pushN xs0 p0 n0 l)
def R_pushL : X_pushL → X_pushL → Prop := fun x y => match x, y with | (xs0, p0, n0, l0, len0, i0), (xs, p, n, l, len, i) => (l = l0 ∧ len = len0) ∧ (False)
def D_pushL : X_pushL → LEnds X_pushL := fun x => ⟨[(0, E0_pushL x)], R_pushL x⟩
noncomputable def S_pushL : Summ := preV [8] (summN sh_pushL sx_pushL nx_pushL Pre_pushL D_pushL)
def Inv_pushL : X_pushL → X_pushL → Prop := fun x y => match x, y with | (xs0, p0, n0, l0, len0, i0), (xs, p, n, l, len, i) => (l = l0 ∧ len = len0) ∧ ((0 ≤ i ∧ i ≤ len) ∧ ringOK xs p n ∧ pushG xs p n (l.drop i.toNat) = pushG xs0 p0 n0 l)
def M_pushL : X_pushL → X_pushL → Nat := fun x y => match x, y with | (xs0, p0, n0, l0, len0, i0), (xs, p, n, l, len, i) => (len - i).toNat
theorem body_pushL (Inv : X_pushL → Prop) (meas : X_pushL → Nat) (nn : Nat) (EE0 RR : X_pushL → Prop) (xs : List (den (.int .i64))) (p : Int) (n : Int) (l : List (den (.int .i64))) (len : Int) (i : Int) : awp tab fs_alive (acall tab fs_alive specs_rup fns 100 20) [] 100 (loopAt Try.f12 2) (bodyN sh_pushL sx_pushL nx_pushL Inv meas nn ⟨[(0, EE0)], RR⟩) (sh_pushL (xs, p, n, l, len, i)) =
  (ifB (ltB i len) (need (inI i (lenI l)) (need (inI p (lenI xs)) (eqI p p (eqI (nth (Ty.int IntKind.i64) l i) (nth (Ty.int IntKind.i64) l i) (need (inI p (lenI xs))
    (need (AV.rptr 1 (Ty.int IntKind.i64) p 0 = AV.rptr 1 (Ty.int IntKind.i64) p 0) (need (inI p (lenI xs)) (need (nzI (lenI (setI xs p (nth (Ty.int IntKind.i64) l i))))
    (eqI p p (eqI (addW IntKind.i64 p 1) (addW IntKind.i64 p 1) (eqI (lenI (setI xs p (nth (Ty.int IntKind.i64) l i))) (lenI (setI xs p (nth (Ty.int IntKind.i64) l i)))
    (need (nzI (lenI (setI xs p (nth (Ty.int IntKind.i64) l i)))) (eqI (remI (addW IntKind.i64 p 1) (lenI (setI xs p (nth (Ty.int IntKind.i64) l i)))) (remI (addW IntKind.i64
    p 1) (lenI (setI xs p (nth (Ty.int IntKind.i64) l i)))) (eqI n n (eqI (addW IntKind.i64 n 1) (addW IntKind.i64 n 1) (eqI (lenI (setI xs p (nth (Ty.int IntKind.i64)
    l i))) (lenI (setI xs p (nth (Ty.int IntKind.i64) l i))) (eqI (selI (ltB (lenI (setI xs p (nth (Ty.int IntKind.i64) l i))) (addW IntKind.i64 n 1)) (lenI (setI xs
    p (nth (Ty.int IntKind.i64) l i))) (addW IntKind.i64 n 1)) (selI (ltB (lenI (setI xs p (nth (Ty.int IntKind.i64) l i))) (addW IntKind.i64 n 1)) (lenI (setI xs p
    (nth (Ty.int IntKind.i64) l i))) (addW IntKind.i64 n 1)) (eqD l l (eqI len len (eqI (addW IntKind.i64 i 1) (addW IntKind.i64 i 1) (eqI (remI (addW IntKind.i64 p
    1) (lenI (setI xs p (nth (Ty.int IntKind.i64) l i)))) (remI (addW IntKind.i64 p 1) (lenI (setI xs p (nth (Ty.int IntKind.i64) l i)))) (eqI (selI (ltB (lenI (setI
    xs p (nth (Ty.int IntKind.i64) l i))) (addW IntKind.i64 n 1)) (lenI (setI xs p (nth (Ty.int IntKind.i64) l i))) (addW IntKind.i64 n 1)) (selI (ltB (lenI (setI xs
    p (nth (Ty.int IntKind.i64) l i))) (addW IntKind.i64 n 1)) (lenI (setI xs p (nth (Ty.int IntKind.i64) l i))) (addW IntKind.i64 n 1)) (eqD (setI xs p (nth (Ty.int
    IntKind.i64) l i)) (setI xs p (nth (Ty.int IntKind.i64) l i)) (Inv (setI xs p (nth (Ty.int IntKind.i64) l i), remI (addW IntKind.i64 p 1) (lenI (setI xs p (nth (Ty.int
    IntKind.i64) l i))), selI (ltB (lenI (setI xs p (nth (Ty.int IntKind.i64) l i))) (addW IntKind.i64 n 1)) (lenI (setI xs p (nth (Ty.int IntKind.i64) l i))) (addW
    IntKind.i64 n 1), l, len, addW IntKind.i64 i 1) ∧ meas (setI xs p (nth (Ty.int IntKind.i64) l i), remI (addW IntKind.i64 p 1) (lenI (setI xs p (nth (Ty.int IntKind.i64)
    l i))), selI (ltB (lenI (setI xs p (nth (Ty.int IntKind.i64) l i))) (addW IntKind.i64 n 1)) (lenI (setI xs p (nth (Ty.int IntKind.i64) l i))) (addW IntKind.i64 n
    1), l, len, addW IntKind.i64 i 1) < nn)))))))))))))))))))))))) (eqD l l (eqI len len (eqI i i (eqI p p (eqI n n (eqD xs xs (EE0 (xs, p, n, l, len, i))))))))) := by kernel_rfl
theorem body_pushL_ok : ∀ x y, Pre_pushL x → Inv_pushL x y → wfS (sh_pushL y) → Hd (awp tab fs_alive (acall tab fs_alive specs_rup fns 100 20) [] 100 (loopAt Try.f12 2) (bodyN sh_pushL sx_pushL nx_pushL (Inv_pushL x) (M_pushL x) (M_pushL x y) (D_pushL x)) (sh_pushL y)) := by
  rintro ⟨xs0, p0, n0, l0, len0, i0⟩ ⟨xs, p, n, l, len, i⟩ hp hI hw
  obtain ⟨⟨rfl, rfl⟩, hI⟩ := hI
  have hw_xs := wfR_row hw 1 rfl
  have hw_p := wfC_int hw 0 1 rfl
  have hw_n := wfC_int hw 0 2 rfl
  have hw_l := wfL_view hw 8 rfl
  have hw_len := wfL_int hw 9 rfl
  have hw_i := wfL_int hw 10 rfl
  have hp : i0 = 0 ∧ len = lenI l ∧ ringOK xs0 p0 n0 := hp
  unfold D_pushL
  rw [body_pushL]
  refine ⟨?_⟩
  have hInv : ∀ (xs : List (den (.int .i64))) (p : Int) (n : Int) (i : Int), ((0 ≤ i ∧ i ≤ len) ∧ ringOK xs p n ∧ pushG xs p n (l.drop i.toNat) = pushG xs0 p0 n0 l) → Inv_pushL (xs0, p0, n0, l, len, i0) (xs, p, n, l, len, i) := fun _ _ _ _ h => ⟨⟨rfl, rfl⟩, h⟩
  generalize hIe : Inv_pushL (xs0, p0, n0, l, len, i0) = Inv at hInv ⊢
  have hMe : ∀ (xs : List (den (.int .i64))) (p : Int) (n : Int) (i : Int), M_pushL (xs0, p0, n0, l, len, i0) (xs, p, n, l, len, i) = (len - i).toNat := fun _ _ _ _ => rfl
  generalize M_pushL (xs0, p0, n0, l, len, i0) = Me at hMe ⊢
  have hE0 : ∀ (xs : List (den (.int .i64))) (p : Int) (n : Int) (i : Int), (xs = pushX xs0 p0 n0 l ∧ p = pushP xs0 p0 n0 l ∧ n = pushN xs0 p0 n0 l) → E0_pushL (xs0, p0, n0, l, len, i0) (xs, p, n, l, len, i) := fun _ _ _ _ h => ⟨⟨rfl, rfl⟩, h⟩
  generalize E0_pushL (xs0, p0, n0, l, len, i0) = EE0 at hE0 ⊢
  have hR : ∀ (xs : List (den (.int .i64))) (p : Int) (n : Int) (i : Int), (False) → R_pushL (xs0, p0, n0, l, len, i0) (xs, p, n, l, len, i) := fun _ _ _ _ h => ⟨⟨rfl, rfl⟩, h⟩
  generalize R_pushL (xs0, p0, n0, l, len, i0) = RR at hR ⊢
  obtain ⟨hi, hk, hI⟩ := hI
  obtain ⟨p1, rfl, p3⟩ := hp
  have hk' := hk
  unfold ringOK at hk'
  obtain ⟨k1, k2, k3, k4, k5⟩ := hk'
  by_cases hlt : i < lenI l
  · rw [drop_nth (t := .int .i64) hi.1 hlt] at hI
    have hlen := wfT_len hw_l
    have ei : addW .i64 i 1 = i + 1 := addW64 (by omega) (by omega)
    have en : addW .i64 n 1 = n + 1 := addW64 (by omega) (by omega)
    have ep : addW .i64 p 1 = p + 1 := addW64 (by omega) (by omega)
    have er : remI (p + 1) (lenI xs) = if p + 1 = lenI xs then 0 else p + 1 := ring_rem k1 k2
    rw [ltB_t.2 hlt]
    simp only [pushG] at hI
    obtain ⟨v, hv0⟩ : ∃ v : Int, nth (.int .i64) l i = v := ⟨_, rfl⟩
    rw [hv0] at hI ⊢
    have el : lenI (setI xs p v) = lenI xs := lenI_setI
    have hq : 0 ≤ (if p + 1 = lenI xs then 0 else p + 1) ∧ (if p + 1 = lenI xs then 0 else p + 1) < lenI xs := by split <;> omega
    have hmin : selI (ltB (lenI xs) (n + 1)) (lenI xs) (n + 1) = if n + 1 ≤ lenI xs then n + 1 else lenI xs := by
      simp only [selI_def, ltB_def, decide_eq_true_eq]; split <;> split <;> omega
    have hm : 0 ≤ (if n + 1 ≤ lenI xs then n + 1 else lenI xs) ∧ (if n + 1 ≤ lenI xs then n + 1 else lenI xs) ≤ lenI xs := by split <;> omega
    have hO : ringOK (setI xs p v) (if p + 1 = lenI xs then 0 else p + 1) (if n + 1 ≤ lenI xs then n + 1 else lenI xs) := by
      unfold ringOK; rw [el]; exact ⟨hq.1, hq.2, hm.1, hm.2, k5⟩
    simp only [ei, en, ep, el, er, hmin]
    simp only [need_def, appL_def, ifB_def, impB_def, selB_f, selB_t, selI_def, selX_def, notB_def, andB_def, orB_def, beqB_def, ltB_def, leB_def, eqB_def, seqB_def, eqI_def, eqL_def, eqS_def, eqD_def, eqT_def, imp_def, inI_def, nzI_def, geZ_def, ret_bool, ret_int, Bool.and_eq_true, Bool.or_eq_true, Bool.not_eq_true', Bool.not_eq_false', decide_eq_true_eq, decide_eq_false_iff_not, Bool.and_eq_false_iff, Bool.or_eq_false_iff, Int.not_lt, Int.not_le, true_and, and_true, implies_true, Bool.false_eq_true, Bool.true_eq_false, false_implies, forall_const, reduceCtorEq, if_true, if_false, true_implies, false_and, and_false, false_or, or_false, true_or, or_true, hMe, el]
    have hfin := hInv _ _ _ (i + 1) ⟨by omega, hO, hI⟩
    repeat' (first | with_reducible rfl | assumption | omega | refine ⟨?_, ?_⟩)
  · rw [drop_all (by omega)] at hI
    rw [ltB_f.2 (Int.not_lt.1 hlt)]
    simp only [need_def, appL_def, ifB_def, impB_def, selB_f, selB_t, selI_def, selX_def, notB_def, andB_def, orB_def, beqB_def, ltB_def, leB_def, eqB_def, seqB_def, eqI_def, eqL_def, eqS_def, eqD_def, eqT_def, imp_def, inI_def, nzI_def, geZ_def, ret_bool, ret_int, Bool.and_eq_true, Bool.or_eq_true, Bool.not_eq_true', Bool.not_eq_false', decide_eq_true_eq, decide_eq_false_iff_not, Bool.and_eq_false_iff, Bool.or_eq_false_iff, Int.not_lt, Int.not_le, true_and, and_true, implies_true, Bool.false_eq_true, Bool.true_eq_false, false_implies, forall_const, reduceCtorEq, if_true, if_false, true_implies, false_and, and_false, false_or, or_false, true_or, or_true]
    simp only [pushG] at hI
    refine hE0 _ _ _ _ ⟨?_, ?_, ?_⟩
    · unfold pushX; rw [← hI]
    · unfold pushP; rw [← hI]
    · unfold pushN; rw [← hI]
theorem summ_pushL : SummOK Try.prog (loopAt Try.f12 2) S_pushL :=
  preV_ok (summN_ok (L := []) (fuel := 100) tabOK fsOK_alive (mkCall fsOK_alive specsOK_rup fnsOK) (fun C => mkDraw fsOK_alive (mkCall fsOK_alive specsOK_rup fnsOK) C) loopsOK_nil Inv_pushL M_pushL
    (fun x hp hw => by
      obtain ⟨xs, p, n, l, len, i⟩ := x
      have hp : i = 0 ∧ len = lenI l ∧ ringOK xs p n := hp
      have hw_xs := wfR_row hw 1 rfl
      have hw_p := wfC_int hw 0 1 rfl
      have hw_n := wfC_int hw 0 2 rfl
      have hw_l := wfL_view hw 8 rfl
      have hw_len := wfL_int hw 9 rfl
      have hw_i := wfL_int hw 10 rfl
      obtain ⟨rfl, rfl, h⟩ := hp
      exact ⟨⟨rfl, rfl⟩, ⟨by omega, lenI_nn _⟩, h, rfl⟩)
    (body_pushL_ok))
noncomputable def fns_push : Fns := (12, Try.f12, [(2, S_pushL)]) :: fns
theorem fn_push : FnOK Try.prog 12 Try.f12 [(2, S_pushL)] := fnOK_loops Try.func12 (fun vs w => Try.call12 vs w) (by kernel_rfl) fun k S h => by
  simp only [List.mem_cons, Prod.mk.injEq, List.not_mem_nil, or_false] at h
  obtain ⟨rfl, rfl⟩ := h
  exact summ_pushL
theorem fns_pushOK : FnsOK Try.prog fns_push := fnsOK_cons fn_push fnsOK
noncomputable def pushS : List AV → List Blk → AK → Prop := fun args m K => match args, m with | [.ptr 0 0, .view [] (.int .i64) l], [.var [.own 1, .int .i64 p, .int .i64 n], .row 3 (.int .i64) xs []] => need (ringOK xs p n) (K (.ret (.tup [])) [.var [.own 1, .int .i64 (pushP xs p n l), .int .i64 (pushN xs p n l)], .row 3 (.int .i64) (pushX xs p n l) []] [] [0, 1]) | _, _ => False
theorem push_eq (K : AK) (l : List Int) (p n : Int) (xs : List Int) : acall tab fs_alive specs_rup fns_push 100 20 12 [.ptr 0 0, .view [] (.int .i64) l] [.var [.own 1, .int .i64 p, .int .i64 n], .row 3 (.int .i64) xs []] K =
  (ifB (eqB (lenI xs) 0) (K (AOut.ret (AV.tup (@List.nil AV))) (Blk.var (AV.own 1 :: AV.int IntKind.i64 p :: AV.int IntKind.i64 n :: @List.nil AV) :: Blk.row 3 (Ty.int
    IntKind.i64) xs (@List.nil Nat) :: @List.nil Blk) (@List.nil Nat) (@List.nil Nat)) (eqD l l (eqI (lenI l) (lenI l) (eqI 0 0 (eqI p p (eqI n n (eqD xs xs (((0 : Int)
    = 0 ∧ lenI l = lenI l ∧ ringOK xs p n) ∧ ((∀ (y : X_pushL), (y.2.2.2.1 = l ∧ y.2.2.2.2.1 = lenI l) ∧ y.1 = pushX xs p n y.2.2.2.1 ∧ y.2.1 = pushP xs p n y.2.2.2.1
    ∧ y.2.2.1 = pushN xs p n y.2.2.2.1 → K (AOut.ret (AV.tup (@List.nil AV))) (Blk.var (AV.own 1 :: AV.int IntKind.i64 y.2.1 :: AV.int IntKind.i64 y.2.2.1 :: @List.nil
    AV) :: Blk.row 3 (Ty.int IntKind.i64) y.1 (@List.nil Nat) :: @List.nil Blk) (@List.nil Nat) (0 :: 1 :: @List.nil Nat)) ∧ True) ∧ ∀ (y : X_pushL), (y.2.2.2.1 = l
    ∧ y.2.2.2.2.1 = lenI l) ∧ False → K (AOut.ret (AV.tup (@List.nil AV))) (Blk.var (AV.own 1 :: AV.int IntKind.i64 y.2.1 :: AV.int IntKind.i64 y.2.2.1 :: @List.nil
    AV) :: Blk.row 3 (Ty.int IntKind.i64) y.1 (@List.nil Nat) :: @List.nil Blk) (@List.nil Nat) (0 :: 1 :: @List.nil Nat))))))))) := by kernel_rfl
theorem push_ok : SpecOK Try.prog 12 pushS := specOK_of (mkCall fsOK_alive specsOK_rup fns_pushOK) (fun vs w => Try.call12 vs w) fun args m K h hw hwm => by
  unfold pushS at h
  split at h
  · rename_i l p n xs
    rw [push_eq]
    refine ⟨?_⟩
    simp only [wfAL, wfA, wfS, wfM, wfB, and_true, true_and, wfT_int, wfT_str, wfT_bool, wfT_prod] at hw hwm
    obtain ⟨h1, h⟩ := h
    have hk := h1
    unfold ringOK at hk
    obtain ⟨k1, k2, k3, k4, k5⟩ := hk
    have h0 : ¬ lenI xs = 0 := by omega
    simp only [need_def, appL_def, ifB_def, impB_def, selB_f, selB_t, selI_def, selX_def, notB_def, andB_def, orB_def, beqB_def, ltB_def, leB_def, eqB_def, seqB_def, eqI_def, eqL_def, eqS_def, eqD_def, eqT_def, imp_def, inI_def, nzI_def, geZ_def, ret_bool, ret_int, Bool.and_eq_true, Bool.or_eq_true, Bool.not_eq_true', Bool.not_eq_false', decide_eq_true_eq, decide_eq_false_iff_not, Bool.and_eq_false_iff, Bool.or_eq_false_iff, Int.not_lt, Int.not_le, true_and, and_true, implies_true, Bool.false_eq_true, Bool.true_eq_false, false_implies, forall_const, reduceCtorEq, if_true, if_false, true_implies, false_and, and_false, false_or, or_false, true_or, or_true, h0, h1]
    repeat' (first | with_reducible rfl | assumption | omega | trivial | (rintro ⟨xs', p', n', l', len', i'⟩ ⟨hk, hx⟩; dsimp only at hk hx ⊢; obtain ⟨rfl, rfl⟩ := hk; obtain ⟨rfl, rfl, rfl⟩ := hx; exact h) | (rintro ⟨xs', p', n', l', len', i'⟩ ⟨_, hx⟩; exact hx.elim) | refine ⟨?_, ?_⟩ | intro _)
  · exact h.elim
noncomputable def specs_push : Specs := (12, specV [.any, .sl (.int .i64)] (frameS pushS)) :: specs_rup
theorem specsOK_push : SpecsOK Try.prog specs_push := specsOK_cons (specV_ok (frame_ok push_ok)) specsOK_rup
noncomputable def rlenS : List AV → OV := fun args => match args with | [.vptr [] [.view [] (.int .i64) xs, .int .i64 p, .int .i64 n]] => some ([ringOK xs p n], .int .i64 n) | _ => none
theorem rlen_eq (xs : List Int) (p n : Int) : acall tab fs_alive specs_push fns 100 20 14 [.vptr [] [.view [] (.int .i64) xs, .int .i64 p, .int .i64 n]] [] (fun o mm _ _ => resN (.any) mm o = .ret (.int .i64 n)) =
  (ifB (eqB (lenI xs) 0) (AOut.ret (AV.int IntKind.i64 0) = AOut.ret (AV.int IntKind.i64 n)) (AOut.ret (AV.int IntKind.i64 n) = AOut.ret (AV.int IntKind.i64 n))) := by kernel_rfl
theorem rlen_ok : SpecOK Try.prog 14 (fspecS (pureN [] rlenS)) := pureN_ok (mkCall fsOK_alive specsOK_push fnsOK) (.any) (fun vs w => Try.call14 vs w) fun args ps v h hp hw => by
  unfold rlenS at h
  split at h
  · cases h
    rename_i xs p n
    rw [rlen_eq]
    refine ⟨?_⟩
    simp only [allP_cons, allP_nil, and_true] at hp
    simp only [wfAL, wfA, wfS, wfM, wfB, and_true, true_and, wfT_int, wfT_str, wfT_bool, wfT_prod] at hw
    have hk := hp
    unfold ringOK at hk
    have h0 : ¬ lenI xs = 0 := by omega
    simp only [need_def, appL_def, ifB_def, impB_def, selB_f, selB_t, selI_def, selX_def, notB_def, andB_def, orB_def, beqB_def, ltB_def, leB_def, eqB_def, seqB_def, eqI_def, eqL_def, eqS_def, eqD_def, eqT_def, imp_def, inI_def, nzI_def, geZ_def, ret_bool, ret_int, Bool.and_eq_true, Bool.or_eq_true, Bool.not_eq_true', Bool.not_eq_false', decide_eq_true_eq, decide_eq_false_iff_not, Bool.and_eq_false_iff, Bool.or_eq_false_iff, Int.not_lt, Int.not_le, true_and, and_true, implies_true, Bool.false_eq_true, Bool.true_eq_false, false_implies, forall_const, reduceCtorEq, if_true, if_false, true_implies, false_and, and_false, false_or, or_false, true_or, or_true, h0]
    repeat' (first | with_reducible rfl | assumption | omega | trivial | refine ⟨?_, ?_⟩ | intro _)
  · cases h
noncomputable def FF_rlen : FSpec := pureN [] rlenS
theorem FFok_rlen : SpecOK Try.prog 14 (fspecS FF_rlen) := rlen_ok
noncomputable def fs_rlen : FS := (14, FF_rlen) :: fs_alive
theorem fsOK_rlen : FSOK Try.prog fs_rlen := fsOK_cons FFok_rlen fsOK_alive
noncomputable def rsizeS : List AV → OV := fun args => match args with | [.vptr [] [.view [] (.int .i64) xs, .int .i64 p, .int .i64 n]] => some ([ringOK xs p n], .int .i64 (lenI xs)) | _ => none
theorem rsize_eq (xs : List Int) (p n : Int) : acall tab fs_rlen specs_push fns 100 20 15 [.vptr [] [.view [] (.int .i64) xs, .int .i64 p, .int .i64 n]] [] (fun o mm _ _ => resN (.any) mm o = .ret (.int .i64 (lenI xs))) =
  (ifB (eqB (lenI xs) 0) (AOut.ret (AV.int IntKind.i64 0) = AOut.ret (AV.int IntKind.i64 (lenI xs))) (AOut.ret (AV.int IntKind.i64 (lenI xs)) = AOut.ret (AV.int IntKind.i64
    (lenI xs)))) := by kernel_rfl
theorem rsize_ok : SpecOK Try.prog 15 (fspecS (pureN [] rsizeS)) := pureN_ok (mkCall fsOK_rlen specsOK_push fnsOK) (.any) (fun vs w => Try.call15 vs w) fun args ps v h hp hw => by
  unfold rsizeS at h
  split at h
  · cases h
    rename_i xs p n
    rw [rsize_eq]
    refine ⟨?_⟩
    simp only [allP_cons, allP_nil, and_true] at hp
    simp only [wfAL, wfA, wfS, wfM, wfB, and_true, true_and, wfT_int, wfT_str, wfT_bool, wfT_prod] at hw
    have hk := hp
    unfold ringOK at hk
    have h0 : ¬ lenI xs = 0 := by omega
    simp only [need_def, appL_def, ifB_def, impB_def, selB_f, selB_t, selI_def, selX_def, notB_def, andB_def, orB_def, beqB_def, ltB_def, leB_def, eqB_def, seqB_def, eqI_def, eqL_def, eqS_def, eqD_def, eqT_def, imp_def, inI_def, nzI_def, geZ_def, ret_bool, ret_int, Bool.and_eq_true, Bool.or_eq_true, Bool.not_eq_true', Bool.not_eq_false', decide_eq_true_eq, decide_eq_false_iff_not, Bool.and_eq_false_iff, Bool.or_eq_false_iff, Int.not_lt, Int.not_le, true_and, and_true, implies_true, Bool.false_eq_true, Bool.true_eq_false, false_implies, forall_const, reduceCtorEq, if_true, if_false, true_implies, false_and, and_false, false_or, or_false, true_or, or_true, h0]
    repeat' (first | with_reducible rfl | assumption | omega | trivial | refine ⟨?_, ?_⟩ | intro _)
  · cases h
noncomputable def FF_rsize : FSpec := pureN [] rsizeS
theorem FFok_rsize : SpecOK Try.prog 15 (fspecS FF_rsize) := rsize_ok
noncomputable def fs_rsize : FS := (15, FF_rsize) :: fs_rlen
theorem fsOK_rsize : FSOK Try.prog fs_rsize := fsOK_cons FFok_rsize fsOK_rlen
end Go.Proofs.Ytgifbceiaibejaa.Sx

