/- The counters: what their functions come to. -/
import Derived.Test.YtgifbceiaibejaaSmRingA
namespace Go.Proofs.Ytgifbceiaibejaa.Sx
open Go.RowKit
set_option maxRecDepth 100000
set_option maxHeartbeats 4000000
set_option linter.unusedVariables false
set_option linter.unusedSimpArgs false
def upG (most : Int) : Int → List Int → Int
  | now, [] => now
  | now, n :: l => upG most (if 0 < n then now + min n (most - now) else now) l
def upR (most now : Int) (l : List Int) : Int := upG most now l
def upF (most now : Int) (l : List Int) : Int := upG most now (if l = [] then [1] else l)
def okN (now most : Int) : Prop := 0 ≤ now ∧ now ≤ most ∧ most ≤ 9223372036854775807
def lenOK (n : Int) : Prop := n ≤ 1000000000000
abbrev X_up := List (den (.int .i64)) × Int × Int × Int × Int
def sh_up : X_up → St := fun x => match x with | (l, n, i, now, most) => ⟨setL (rep .bad 44) [(13, .view [1] (.int .i64) l), (14, .int .i64 n), (15, .int .i64 i), (0, .ptr 0 0)], [.var [.int .i64 now, .int .i64 most]], [1], [0, 1]⟩
def sx_up : AExit → X_up → St := fun _ => sh_up
def nx_up (σ : St) : X_up := (gV (.int .i64) σ 13, gI σ 14, gI σ 15, cI σ 0 0, cI σ 0 1)
def Pre_up : X_up → Prop := fun x => match x with | (l, n, i, now, most) => i = 0 ∧ n = lenI l ∧ lenOK n ∧ okN now most
def E0_up : X_up → X_up → Prop := fun x y => match x, y with | (l0, n0, i0, now0, most0), (l, n, i, now, most) => (l = l0 ∧ n = n0 ∧ most = most0) ∧ (now = upR most now0 l)
def R_up : X_up → X_up → Prop := fun x y => match x, y with | (l0, n0, i0, now0, most0), (l, n, i, now, most) => (l = l0 ∧ n = n0 ∧ most = most0) ∧ (False)
def D_up : X_up → LEnds X_up := fun x => ⟨[(0, E0_up x)], R_up x⟩
noncomputable def S_up : Summ := preV [13] (summN sh_up sx_up nx_up Pre_up D_up)
def Inv_up : X_up → X_up → Prop := fun x y => match x, y with | (l0, n0, i0, now0, most0), (l, n, i, now, most) => (l = l0 ∧ n = n0 ∧ most = most0) ∧ ((0 ≤ i ∧ i ≤ n) ∧ okN now most ∧ upG most now (l.drop i.toNat) = upR most now0 l)
def M_up : X_up → X_up → Nat := fun x y => match x, y with | (l0, n0, i0, now0, most0), (l, n, i, now, most) => (n - i).toNat
theorem body_up (Inv : X_up → Prop) (meas : X_up → Nat) (nn : Nat) (EE0 RR : X_up → Prop) (l : List (den (.int .i64))) (n : Int) (i : Int) (now : Int) (most : Int) : awp tab fs_alive (acall tab fs_alive [] fns 100 20) [] 100 (loopAt Try.f21 6) (bodyN sh_up sx_up nx_up Inv meas nn ⟨[(0, EE0)], RR⟩) (sh_up (l, n, i, now, most)) =
  (ifB (ltB i n) (need (inI i (lenI l)) (ifB (ltB 0 (nth (Ty.int IntKind.i64) l i)) (eqI now now (eqI (nth (Ty.int IntKind.i64) l i) (nth (Ty.int IntKind.i64) l i)
    (eqI most most (eqI now now (eqI (subW IntKind.i64 most now) (subW IntKind.i64 most now) (eqI (selI (ltB (subW IntKind.i64 most now) (nth (Ty.int IntKind.i64) l
    i)) (subW IntKind.i64 most now) (nth (Ty.int IntKind.i64) l i)) (selI (ltB (subW IntKind.i64 most now) (nth (Ty.int IntKind.i64) l i)) (subW IntKind.i64 most now)
    (nth (Ty.int IntKind.i64) l i)) (eqI (addW IntKind.i64 now (selI (ltB (subW IntKind.i64 most now) (nth (Ty.int IntKind.i64) l i)) (subW IntKind.i64 most now) (nth
    (Ty.int IntKind.i64) l i))) (addW IntKind.i64 now (selI (ltB (subW IntKind.i64 most now) (nth (Ty.int IntKind.i64) l i)) (subW IntKind.i64 most now) (nth (Ty.int
    IntKind.i64) l i))) (eqD l l (eqI n n (eqI (addW IntKind.i64 i 1) (addW IntKind.i64 i 1) (eqI (addW IntKind.i64 now (selI (ltB (subW IntKind.i64 most now) (nth (Ty.int
    IntKind.i64) l i)) (subW IntKind.i64 most now) (nth (Ty.int IntKind.i64) l i))) (addW IntKind.i64 now (selI (ltB (subW IntKind.i64 most now) (nth (Ty.int IntKind.i64)
    l i)) (subW IntKind.i64 most now) (nth (Ty.int IntKind.i64) l i))) (eqI most most (Inv (l, n, addW IntKind.i64 i 1, addW IntKind.i64 now (selI (ltB (subW IntKind.i64
    most now) (nth (Ty.int IntKind.i64) l i)) (subW IntKind.i64 most now) (nth (Ty.int IntKind.i64) l i)), most) ∧ meas (l, n, addW IntKind.i64 i 1, addW IntKind.i64
    now (selI (ltB (subW IntKind.i64 most now) (nth (Ty.int IntKind.i64) l i)) (subW IntKind.i64 most now) (nth (Ty.int IntKind.i64) l i)), most) < nn))))))))))))) (eqD
    l l (eqI n n (eqI (addW IntKind.i64 i 1) (addW IntKind.i64 i 1) (eqI now now (eqI most most (Inv (l, n, addW IntKind.i64 i 1, now, most) ∧ meas (l, n, addW IntKind.i64
    i 1, now, most) < nn)))))))) (eqD l l (eqI n n (eqI i i (eqI now now (eqI most most (EE0 (l, n, i, now, most)))))))) := by kernel_rfl
theorem body_up_ok : ∀ x y, Pre_up x → Inv_up x y → wfS (sh_up y) → Hd (awp tab fs_alive (acall tab fs_alive [] fns 100 20) [] 100 (loopAt Try.f21 6) (bodyN sh_up sx_up nx_up (Inv_up x) (M_up x) (M_up x y) (D_up x)) (sh_up y)) := by
  rintro ⟨l0, n0, i0, now0, most0⟩ ⟨l, n, i, now, most⟩ hp hI hw
  obtain ⟨⟨rfl, rfl, rfl⟩, hI⟩ := hI
  have hw_l := wfL_view hw 13 rfl
  have hw_n := wfL_int hw 14 rfl
  have hw_i := wfL_int hw 15 rfl
  have hw_now := wfC_int hw 0 0 rfl
  have hw_most := wfC_int hw 0 1 rfl
  have hp : i0 = 0 ∧ n = lenI l ∧ lenOK n ∧ okN now0 most := hp
  unfold D_up
  rw [body_up]
  refine ⟨?_⟩
  have hInv : ∀ (i : Int) (now : Int), ((0 ≤ i ∧ i ≤ n) ∧ okN now most ∧ upG most now (l.drop i.toNat) = upR most now0 l) → Inv_up (l, n, i0, now0, most) (l, n, i, now, most) := fun _ _ h => ⟨⟨rfl, rfl, rfl⟩, h⟩
  generalize hIe : Inv_up (l, n, i0, now0, most) = Inv at hInv ⊢
  have hMe : ∀ (i : Int) (now : Int), M_up (l, n, i0, now0, most) (l, n, i, now, most) = (n - i).toNat := fun _ _ => rfl
  generalize M_up (l, n, i0, now0, most) = Me at hMe ⊢
  have hE0 : ∀ (i : Int) (now : Int), (now = upR most now0 l) → E0_up (l, n, i0, now0, most) (l, n, i, now, most) := fun _ _ h => ⟨⟨rfl, rfl, rfl⟩, h⟩
  generalize E0_up (l, n, i0, now0, most) = EE0 at hE0 ⊢
  have hR : ∀ (i : Int) (now : Int), (False) → R_up (l, n, i0, now0, most) (l, n, i, now, most) := fun _ _ h => ⟨⟨rfl, rfl, rfl⟩, h⟩
  generalize R_up (l, n, i0, now0, most) = RR at hR ⊢
  obtain ⟨hi, hn, hI⟩ := hI
  obtain ⟨p1, rfl, p3, p4⟩ := hp
  unfold lenOK at p3
  unfold okN at hn
  by_cases hlt : i < lenI l
  · rw [drop_nth (t := .int .i64) hi.1 hlt] at hI
    have ei : addW .i64 i 1 = i + 1 := addW64 (by omega) (by omega)
    have es : subW .i64 most now = most - now := subW64 (by omega) (by omega)
    rw [ltB_t.2 hlt]
    simp only [upG] at hI
    obtain ⟨v, hv0⟩ : ∃ v : Int, nth (.int .i64) l i = v := ⟨_, rfl⟩
    rw [hv0] at hI ⊢
    have hmin : selI (ltB (most - now) v) (most - now) v = min v (most - now) := by simp only [selI_def, ltB_def, decide_eq_true_eq]; split <;> omega
    simp only [ei, es, hmin]
    by_cases hv : 0 < v
    · have ea : addW .i64 now (min v (most - now)) = now + min v (most - now) := addW64 (by omega) (by omega)
      rw [if_pos hv] at hI
      simp only [ltB_t.2 hv, ea]
      simp only [need_def, appL_def, ifB_def, impB_def, selB_f, selB_t, selI_def, selX_def, notB_def, andB_def, orB_def, beqB_def, ltB_def, leB_def, eqB_def, seqB_def, eqI_def, eqL_def, eqS_def, eqD_def, eqT_def, imp_def, inI_def, nzI_def, geZ_def, ret_bool, ret_int, Bool.and_eq_true, Bool.or_eq_true, Bool.not_eq_true', Bool.not_eq_false', decide_eq_true_eq, decide_eq_false_iff_not, Bool.and_eq_false_iff, Bool.or_eq_false_iff, Int.not_lt, Int.not_le, true_and, and_true, implies_true, Bool.false_eq_true, Bool.true_eq_false, false_implies, forall_const, reduceCtorEq, if_true, if_false, true_implies, false_and, and_false, false_or, or_false, true_or, or_true, hMe]
      refine ⟨⟨hi.1, hlt⟩, hInv _ _ ⟨by omega, by unfold okN; omega, hI⟩, by omega⟩
    · rw [if_neg hv] at hI
      simp only [ltB_f.2 (Int.not_lt.1 hv)]
      simp only [need_def, appL_def, ifB_def, impB_def, selB_f, selB_t, selI_def, selX_def, notB_def, andB_def, orB_def, beqB_def, ltB_def, leB_def, eqB_def, seqB_def, eqI_def, eqL_def, eqS_def, eqD_def, eqT_def, imp_def, inI_def, nzI_def, geZ_def, ret_bool, ret_int, Bool.and_eq_true, Bool.or_eq_true, Bool.not_eq_true', Bool.not_eq_false', decide_eq_true_eq, decide_eq_false_iff_not, Bool.and_eq_false_iff, Bool.or_eq_false_iff, Int.not_lt, Int.not_le, true_and, and_true, implies_true, Bool.false_eq_true, Bool.true_eq_false, false_implies, forall_const, reduceCtorEq, if_true, if_false, true_implies, false_and, and_false, false_or, or_false, true_or, or_true, hMe]
      refine ⟨⟨hi.1, hlt⟩, hInv _ _ ⟨by omega, by unfold okN; omega, hI⟩, by omega⟩
  · rw [drop_all (by omega)] at hI
    rw [ltB_f.2 (Int.not_lt.1 hlt)]
    simp only [need_def, appL_def, ifB_def, impB_def, selB_f, selB_t, selI_def, selX_def, notB_def, andB_def, orB_def, beqB_def, ltB_def, leB_def, eqB_def, seqB_def, eqI_def, eqL_def, eqS_def, eqD_def, eqT_def, imp_def, inI_def, nzI_def, geZ_def, ret_bool, ret_int, Bool.and_eq_true, Bool.or_eq_true, Bool.not_eq_true', Bool.not_eq_false', decide_eq_true_eq, decide_eq_false_iff_not, Bool.and_eq_false_iff, Bool.or_eq_false_iff, Int.not_lt, Int.not_le, true_and, and_true, implies_true, Bool.false_eq_true, Bool.true_eq_false, false_implies, forall_const, reduceCtorEq, if_true, if_false, true_implies, false_and, and_false, false_or, or_false, true_or, or_true]
    exact hE0 _ _ hI
theorem summ_up : SummOK Try.prog (loopAt Try.f21 6) S_up :=
  preV_ok (summN_ok (L := []) (fuel := 100) tabOK fsOK_alive (mkCall fsOK_alive specsOK_nil fnsOK) (fun C => mkDraw fsOK_alive (mkCall fsOK_alive specsOK_nil fnsOK) C) loopsOK_nil Inv_up M_up
    (fun x hp hw => by
      obtain ⟨l, n, i, now, most⟩ := x
      have hp : i = 0 ∧ n = lenI l ∧ lenOK n ∧ okN now most := hp
      have hw_l := wfL_view hw 13 rfl
      have hw_n := wfL_int hw 14 rfl
      have hw_i := wfL_int hw 15 rfl
      have hw_now := wfC_int hw 0 0 rfl
      have hw_most := wfC_int hw 0 1 rfl
      obtain ⟨rfl, rfl, h1, h2⟩ := hp
      exact ⟨⟨rfl, rfl, rfl⟩, ⟨by omega, lenI_nn _⟩, h2, rfl⟩)
    (body_up_ok))
noncomputable def fns_up : Fns := (21, Try.f21, [(6, S_up)]) :: fns
theorem fn_up : FnOK Try.prog 21 Try.f21 [(6, S_up)] := fnOK_loops Try.func21 (fun vs w => Try.call21 vs w) (by kernel_rfl) fun k S h => by
  simp only [List.mem_cons, Prod.mk.injEq, List.not_mem_nil, or_false] at h
  obtain ⟨rfl, rfl⟩ := h
  exact summ_up
theorem fns_upOK : FnsOK Try.prog fns_up := fnsOK_cons fn_up fnsOK
noncomputable def upS : List AV → List Blk → AK → Prop := fun args m K => match args, m with | [.ptr 0 0, .view [] (.int .i64) l], [.var [.int .i64 now, .int .i64 most]] => need (okN now most) (need (lenOK (lenI l)) (K (.ret (.int .i64 (upF most now l))) [.var [.int .i64 (upF most now l), .int .i64 most]] [] [0])) | _, _ => False
theorem up_eq (K : AK) (l : List Int) (now most : Int) : acall tab fs_alive [] fns_up 100 20 21 [.ptr 0 0, .view [] (.int .i64) l] [.var [.int .i64 now, .int .i64 most]] K =
  (ifB (eqB (lenI l) 0) (eqD (1 :: @List.nil (den (Ty.int IntKind.i64))) (1 :: @List.nil (den (Ty.int IntKind.i64))) (eqI 1 1 (eqI 0 0 (eqI now now (eqI most most (((0
    : Int) = 0 ∧ (1 : Int) = 1 ∧ lenOK 1 ∧ okN now most) ∧ ((∀ (y : X_up), (y.1 = 1 :: @List.nil (den (Ty.int IntKind.i64)) ∧ y.2.1 = 1 ∧ y.2.2.2.2 = most) ∧ y.2.2.2.1
    = upR y.2.2.2.2 now y.1 → K (AOut.ret (AV.int IntKind.i64 y.2.2.2.1)) (Blk.var (AV.int IntKind.i64 y.2.2.2.1 :: AV.int IntKind.i64 y.2.2.2.2 :: @List.nil AV) ::
    @List.nil Blk) (@List.nil Nat) (0 :: @List.nil Nat)) ∧ True) ∧ ∀ (y : X_up), (y.1 = 1 :: @List.nil (den (Ty.int IntKind.i64)) ∧ y.2.1 = 1 ∧ y.2.2.2.2 = most) ∧ False
    → K (AOut.ret AV.bad) (Blk.var (AV.int IntKind.i64 y.2.2.2.1 :: AV.int IntKind.i64 y.2.2.2.2 :: @List.nil AV) :: @List.nil Blk) (@List.nil Nat) (0 :: @List.nil Nat)))))))
    (eqD l l (eqI (lenI l) (lenI l) (eqI 0 0 (eqI now now (eqI most most (((0 : Int) = 0 ∧ lenI l = lenI l ∧ lenOK (lenI l) ∧ okN now most) ∧ ((∀ (y : X_up), (y.1 =
    l ∧ y.2.1 = lenI l ∧ y.2.2.2.2 = most) ∧ y.2.2.2.1 = upR y.2.2.2.2 now y.1 → K (AOut.ret (AV.int IntKind.i64 y.2.2.2.1)) (Blk.var (AV.int IntKind.i64 y.2.2.2.1 ::
    AV.int IntKind.i64 y.2.2.2.2 :: @List.nil AV) :: @List.nil Blk) (@List.nil Nat) (0 :: @List.nil Nat)) ∧ True) ∧ ∀ (y : X_up), (y.1 = l ∧ y.2.1 = lenI l ∧ y.2.2.2.2
    = most) ∧ False → K (AOut.ret AV.bad) (Blk.var (AV.int IntKind.i64 y.2.2.2.1 :: AV.int IntKind.i64 y.2.2.2.2 :: @List.nil AV) :: @List.nil Blk) (@List.nil Nat) (0
    :: @List.nil Nat)))))))) := by kernel_rfl
theorem up_ok : SpecOK Try.prog 21 upS := specOK_of (mkCall fsOK_alive specsOK_nil fns_upOK) (fun vs w => Try.call21 vs w) fun args m K h hw hwm => by
  unfold upS at h
  split at h
  · rename_i l now most
    rw [up_eq]
    refine ⟨?_⟩
    simp only [wfAL, wfA, wfS, wfM, wfB, and_true, true_and, wfT_int, wfT_str, wfT_bool, wfT_prod] at hw hwm
    obtain ⟨h1, h2, h⟩ := h
    have hle : lenOK (lenI ([1] : List Int)) := by unfold lenOK lenI; simp
    have hnil : ∀ (y : Prop), True := fun _ => trivial
    by_cases h0 : lenI l = 0
    · have hl0 : l = [] := by cases l with | nil => rfl | cons a l => simp only [lenI, List.length_cons] at h0; omega
      have e : upF most now l = upR most now [1] := by subst hl0; rfl
      rw [e] at h
      simp only [need_def, appL_def, ifB_def, impB_def, selB_f, selB_t, selI_def, selX_def, notB_def, andB_def, orB_def, beqB_def, ltB_def, leB_def, eqB_def, seqB_def, eqI_def, eqL_def, eqS_def, eqD_def, eqT_def, imp_def, inI_def, nzI_def, geZ_def, ret_bool, ret_int, Bool.and_eq_true, Bool.or_eq_true, Bool.not_eq_true', Bool.not_eq_false', decide_eq_true_eq, decide_eq_false_iff_not, Bool.and_eq_false_iff, Bool.or_eq_false_iff, Int.not_lt, Int.not_le, true_and, and_true, implies_true, Bool.false_eq_true, Bool.true_eq_false, false_implies, forall_const, reduceCtorEq, if_true, if_false, true_implies, false_and, and_false, false_or, or_false, true_or, or_true, h0, h1, h2, hle, lenI_one]
      repeat' (first | with_reducible rfl | assumption | omega | trivial | (rintro ⟨l', n', i', now', most'⟩ ⟨hk, hx⟩; dsimp only at hk hx ⊢; obtain ⟨rfl, rfl, rfl⟩ := hk; subst hx; exact h) | (rintro ⟨l', n', i', now', most'⟩ ⟨_, hx⟩; exact hx.elim) | refine ⟨?_, ?_⟩ | intro _)
    · have e : upF most now l = upR most now l := by
        unfold upF upR; rw [if_neg (fun hl => h0 (by subst hl; rfl))]
      rw [e] at h
      simp only [need_def, appL_def, ifB_def, impB_def, selB_f, selB_t, selI_def, selX_def, notB_def, andB_def, orB_def, beqB_def, ltB_def, leB_def, eqB_def, seqB_def, eqI_def, eqL_def, eqS_def, eqD_def, eqT_def, imp_def, inI_def, nzI_def, geZ_def, ret_bool, ret_int, Bool.and_eq_true, Bool.or_eq_true, Bool.not_eq_true', Bool.not_eq_false', decide_eq_true_eq, decide_eq_false_iff_not, Bool.and_eq_false_iff, Bool.or_eq_false_iff, Int.not_lt, Int.not_le, true_and, and_true, implies_true, Bool.false_eq_true, Bool.true_eq_false, false_implies, forall_const, reduceCtorEq, if_true, if_false, true_implies, false_and, and_false, false_or, or_false, true_or, or_true, h0, h1, h2]
      repeat' (first | with_reducible rfl | assumption | omega | trivial | (rintro ⟨l', n', i', now', most'⟩ ⟨hk, hx⟩; dsimp only at hk hx ⊢; obtain ⟨rfl, rfl, rfl⟩ := hk; subst hx; exact h) | (rintro ⟨l', n', i', now', most'⟩ ⟨_, hx⟩; exact hx.elim) | refine ⟨?_, ?_⟩ | intro _)
  · exact h.elim
noncomputable def specs_up : Specs := (21, specV [.any, .sl (.int .i64)] (frameS upS)) :: []
theorem specsOK_up : SpecsOK Try.prog specs_up := specsOK_cons (specV_ok (frame_ok up_ok)) specsOK_nil
abbrev X_rup := List (den (.int .i64)) × Int × Int × Int
def sh_rup : X_rup → St := fun x => match x with | (l, i, now, most) => ⟨setL (rep .bad 58) [(1, .view [1] (.int .i64) l), (5, .int .i64 i), (0, .ptr 0 0)], [.var [.int .i64 now, .int .i64 most]], [1], [0, 1]⟩
def sx_rup : AExit → X_rup → St := fun _ => sh_rup
def nx_rup (σ : St) : X_rup := (gV (.int .i64) σ 1, gI σ 5, cI σ 0 0, cI σ 0 1)
def Pre_rup : X_rup → Prop := fun x => match x with | (l, i, now, most) => i = 0 ∧ lenOK (lenI l) ∧ okN now most
def E0_rup : X_rup → X_rup → Prop := fun x y => match x, y with | (l0, i0, now0, most0), (l, i, now, most) => (l = l0 ∧ most = most0) ∧ (now = upR most now0 l)
def R_rup : X_rup → X_rup → Prop := fun x y => match x, y with | (l0, i0, now0, most0), (l, i, now, most) => (l = l0 ∧ most = most0) ∧ (False)
def D_rup : X_rup → LEnds X_rup := fun x => ⟨[(0, E0_rup x)], R_rup x⟩
noncomputable def S_rup : Summ := preV [1] (summN sh_rup sx_rup nx_rup Pre_rup D_rup)
def Inv_rup : X_rup → X_rup → Prop := fun x y => match x, y with | (l0, i0, now0, most0), (l, i, now, most) => (l = l0 ∧ most = most0) ∧ ((0 ≤ i ∧ i ≤ lenI l) ∧ okN now most ∧ upG most now (l.drop i.toNat) = upR most now0 l)
def M_rup : X_rup → X_rup → Nat := fun x y => match x, y with | (l0, i0, now0, most0), (l, i, now, most) => (lenI l - i).toNat
theorem body_rup (Inv : X_rup → Prop) (meas : X_rup → Nat) (nn : Nat) (EE0 RR : X_rup → Prop) (l : List (den (.int .i64))) (i : Int) (now : Int) (most : Int) : awp tab fs_alive (acall tab fs_alive specs_up fns 100 20) [] 100 (loopAt Try.f24 4) (bodyN sh_rup sx_rup nx_rup Inv meas nn ⟨[(0, EE0)], RR⟩) (sh_rup (l, i, now, most)) =
  (ifB (ltB i (lenI l)) (need (inI i (lenI l)) (ifB (ltB 0 (nth (Ty.int IntKind.i64) l i)) (need (inI i (lenI l)) (ifB (ltB (subW IntKind.i64 most now) (nth (Ty.int
    IntKind.i64) l i)) (eqD l l (eqI (addW IntKind.i64 i 1) (addW IntKind.i64 i 1) (eqI most most (eqI most most (Inv (l, addW IntKind.i64 i 1, most, most) ∧ meas (l,
    addW IntKind.i64 i 1, most, most) < nn))))) (need (inI i (lenI l)) (eqI now now (need (AV.view (1 :: @List.nil Nat) (Ty.int IntKind.i64) l = AV.view (1 :: @List.nil
    Nat) (Ty.int IntKind.i64) l) (eqI i i (need (inI i (lenI l)) (need (AV.vptr (1 :: @List.nil Nat) (AV.int IntKind.i64 (nth (Ty.int IntKind.i64) l i) :: @List.nil
    AV) = AV.vptr (1 :: @List.nil Nat) (AV.int IntKind.i64 (nth (Ty.int IntKind.i64) l i) :: @List.nil AV)) (eqI (nth (Ty.int IntKind.i64) l i) (nth (Ty.int IntKind.i64)
    l i) (eqI (addW IntKind.i64 now (nth (Ty.int IntKind.i64) l i)) (addW IntKind.i64 now (nth (Ty.int IntKind.i64) l i)) (eqD l l (eqI (addW IntKind.i64 i 1) (addW
    IntKind.i64 i 1) (eqI (addW IntKind.i64 now (nth (Ty.int IntKind.i64) l i)) (addW IntKind.i64 now (nth (Ty.int IntKind.i64) l i)) (eqI most most (Inv (l, addW IntKind.i64
    i 1, addW IntKind.i64 now (nth (Ty.int IntKind.i64) l i), most) ∧ meas (l, addW IntKind.i64 i 1, addW IntKind.i64 now (nth (Ty.int IntKind.i64) l i), most) < nn)))))))))))))))
    (eqD l l (eqI (addW IntKind.i64 i 1) (addW IntKind.i64 i 1) (eqI now now (eqI most most (Inv (l, addW IntKind.i64 i 1, now, most) ∧ meas (l, addW IntKind.i64 i 1,
    now, most) < nn))))))) (eqD l l (eqI i i (eqI now now (eqI most most (EE0 (l, i, now, most))))))) := by kernel_rfl
theorem body_rup_ok : ∀ x y, Pre_rup x → Inv_rup x y → wfS (sh_rup y) → Hd (awp tab fs_alive (acall tab fs_alive specs_up fns 100 20) [] 100 (loopAt Try.f24 4) (bodyN sh_rup sx_rup nx_rup (Inv_rup x) (M_rup x) (M_rup x y) (D_rup x)) (sh_rup y)) := by
  rintro ⟨l0, i0, now0, most0⟩ ⟨l, i, now, most⟩ hp hI hw
  obtain ⟨⟨rfl, rfl⟩, hI⟩ := hI
  have hw_l := wfL_view hw 1 rfl
  have hw_i := wfL_int hw 5 rfl
  have hw_now := wfC_int hw 0 0 rfl
  have hw_most := wfC_int hw 0 1 rfl
  have hp : i0 = 0 ∧ lenOK (lenI l) ∧ okN now0 most := hp
  unfold D_rup
  rw [body_rup]
  refine ⟨?_⟩
  have hInv : ∀ (i : Int) (now : Int), ((0 ≤ i ∧ i ≤ lenI l) ∧ okN now most ∧ upG most now (l.drop i.toNat) = upR most now0 l) → Inv_rup (l, i0, now0, most) (l, i, now, most) := fun _ _ h => ⟨⟨rfl, rfl⟩, h⟩
  generalize hIe : Inv_rup (l, i0, now0, most) = Inv at hInv ⊢
  have hMe : ∀ (i : Int) (now : Int), M_rup (l, i0, now0, most) (l, i, now, most) = (lenI l - i).toNat := fun _ _ => rfl
  generalize M_rup (l, i0, now0, most) = Me at hMe ⊢
  have hE0 : ∀ (i : Int) (now : Int), (now = upR most now0 l) → E0_rup (l, i0, now0, most) (l, i, now, most) := fun _ _ h => ⟨⟨rfl, rfl⟩, h⟩
  generalize E0_rup (l, i0, now0, most) = EE0 at hE0 ⊢
  have hR : ∀ (i : Int) (now : Int), (False) → R_rup (l, i0, now0, most) (l, i, now, most) := fun _ _ h => ⟨⟨rfl, rfl⟩, h⟩
  generalize R_rup (l, i0, now0, most) = RR at hR ⊢
  obtain ⟨hi, hn, hI⟩ := hI
  obtain ⟨p1, p3, p4⟩ := hp
  unfold lenOK at p3
  unfold okN at hn
  by_cases hlt : i < lenI l
  · rw [drop_nth (t := .int .i64) hi.1 hlt] at hI
    have ei : addW .i64 i 1 = i + 1 := addW64 (by omega) (by omega)
    have es : subW .i64 most now = most - now := subW64 (by omega) (by omega)
    rw [ltB_t.2 hlt]
    simp only [upG] at hI
    obtain ⟨v, hv0⟩ : ∃ v : Int, nth (.int .i64) l i = v := ⟨_, rfl⟩
    rw [hv0] at hI ⊢
    simp only [ei, es]
    by_cases hv : 0 < v
    · rw [if_pos hv] at hI
      by_cases hm : most - now < v
      · have e : now + min v (most - now) = most := by omega
        rw [e] at hI
        simp only [ltB_t.2 hv, ltB_t.2 hm]
        simp only [need_def, appL_def, ifB_def, impB_def, selB_f, selB_t, selI_def, selX_def, notB_def, andB_def, orB_def, beqB_def, ltB_def, leB_def, eqB_def, seqB_def, eqI_def, eqL_def, eqS_def, eqD_def, eqT_def, imp_def, inI_def, nzI_def, geZ_def, ret_bool, ret_int, Bool.and_eq_true, Bool.or_eq_true, Bool.not_eq_true', Bool.not_eq_false', decide_eq_true_eq, decide_eq_false_iff_not, Bool.and_eq_false_iff, Bool.or_eq_false_iff, Int.not_lt, Int.not_le, true_and, and_true, implies_true, Bool.false_eq_true, Bool.true_eq_false, false_implies, forall_const, reduceCtorEq, if_true, if_false, true_implies, false_and, and_false, false_or, or_false, true_or, or_true, hMe]
        repeat' (first | with_reducible rfl | omega | (exact hInv _ _ ⟨by omega, by unfold okN; omega, hI⟩) | refine ⟨?_, ?_⟩)
      · have e : now + min v (most - now) = now + v := by omega
        rw [e] at hI
        have ea : addW .i64 now v = now + v := addW64 (by omega) (by omega)
        simp only [ltB_t.2 hv, ltB_f.2 (Int.not_lt.1 hm), ea]
        simp only [need_def, appL_def, ifB_def, impB_def, selB_f, selB_t, selI_def, selX_def, notB_def, andB_def, orB_def, beqB_def, ltB_def, leB_def, eqB_def, seqB_def, eqI_def, eqL_def, eqS_def, eqD_def, eqT_def, imp_def, inI_def, nzI_def, geZ_def, ret_bool, ret_int, Bool.and_eq_true, Bool.or_eq_true, Bool.not_eq_true', Bool.not_eq_false', decide_eq_true_eq, decide_eq_false_iff_not, Bool.and_eq_false_iff, Bool.or_eq_false_iff, Int.not_lt, Int.not_le, true_and, and_true, implies_true, Bool.false_eq_true, Bool.true_eq_false, false_implies, forall_const, reduceCtorEq, if_true, if_false, true_implies, false_and, and_false, false_or, or_false, true_or, or_true, hMe]
        repeat' (first | with_reducible rfl | omega | (exact hInv _ _ ⟨by omega, by unfold okN; omega, hI⟩) | refine ⟨?_, ?_⟩)
    · rw [if_neg hv] at hI
      simp only [ltB_f.2 (Int.not_lt.1 hv)]
      simp only [need_def, appL_def, ifB_def, impB_def, selB_f, selB_t, selI_def, selX_def, notB_def, andB_def, orB_def, beqB_def, ltB_def, leB_def, eqB_def, seqB_def, eqI_def, eqL_def, eqS_def, eqD_def, eqT_def, imp_def, inI_def, nzI_def, geZ_def, ret_bool, ret_int, Bool.and_eq_true, Bool.or_eq_true, Bool.not_eq_true', Bool.not_eq_false', decide_eq_true_eq, decide_eq_false_iff_not, Bool.and_eq_false_iff, Bool.or_eq_false_iff, Int.not_lt, Int.not_le, true_and, and_true, implies_true, Bool.false_eq_true, Bool.true_eq_false, false_implies, forall_const, reduceCtorEq, if_true, if_false, true_implies, false_and, and_false, false_or, or_false, true_or, or_true, hMe]
      repeat' (first | with_reducible rfl | omega | (exact hInv _ _ ⟨by omega, by unfold okN; omega, hI⟩) | refine ⟨?_, ?_⟩)
  · rw [drop_all (by omega)] at hI
    rw [ltB_f.2 (Int.not_lt.1 hlt)]
    simp only [need_def, appL_def, ifB_def, impB_def, selB_f, selB_t, selI_def, selX_def, notB_def, andB_def, orB_def, beqB_def, ltB_def, leB_def, eqB_def, seqB_def, eqI_def, eqL_def, eqS_def, eqD_def, eqT_def, imp_def, inI_def, nzI_def, geZ_def, ret_bool, ret_int, Bool.and_eq_true, Bool.or_eq_true, Bool.not_eq_true', Bool.not_eq_false', decide_eq_true_eq, decide_eq_false_iff_not, Bool.and_eq_false_iff, Bool.or_eq_false_iff, Int.not_lt, Int.not_le, true_and, and_true, implies_true, Bool.false_eq_true, Bool.true_eq_false, false_implies, forall_const, reduceCtorEq, if_true, if_false, true_implies, false_and, and_false, false_or, or_false, true_or, or_true]
    exact hE0 _ _ hI
theorem summ_rup : SummOK Try.prog (loopAt Try.f24 4) S_rup :=
  preV_ok (summN_ok (L := []) (fuel := 100) tabOK fsOK_alive (mkCall fsOK_alive specsOK_up fnsOK) (fun C => mkDraw fsOK_alive (mkCall fsOK_alive specsOK_up fnsOK) C) loopsOK_nil Inv_rup M_rup
    (fun x hp hw => by
      obtain ⟨l, i, now, most⟩ := x
      have hp : i = 0 ∧ lenOK (lenI l) ∧ okN now most := hp
      have hw_l := wfL_view hw 1 rfl
      have hw_i := wfL_int hw 5 rfl
      have hw_now := wfC_int hw 0 0 rfl
      have hw_most := wfC_int hw 0 1 rfl
      obtain ⟨rfl, h1, h2⟩ := hp
      exact ⟨⟨rfl, rfl⟩, ⟨by omega, lenI_nn _⟩, h2, rfl⟩)
    (body_rup_ok))
noncomputable def fns_rup : Fns := (24, Try.f24, [(4, S_rup)]) :: fns
theorem fn_rup : FnOK Try.prog 24 Try.f24 [(4, S_rup)] := fnOK_loops Try.func24 (fun vs w => Try.call24 vs w) (by kernel_rfl) fun k S h => by
  simp only [List.mem_cons, Prod.mk.injEq, List.not_mem_nil, or_false] at h
  obtain ⟨rfl, rfl⟩ := h
  exact summ_rup
theorem fns_rupOK : FnsOK Try.prog fns_rup := fnsOK_cons fn_rup fnsOK
noncomputable def rupS : List AV → List Blk → AK → Prop := fun args m K => match args, m with | [.ptr 0 0, .view [] (.int .i64) l], [.var [.int .i64 now, .int .i64 most]] => need (okN now most) (need (lenOK (lenI l)) (K (.ret (.int .i64 (upF most now l))) [.var [.int .i64 (upF most now l), .int .i64 most]] [] [0])) | _, _ => False
theorem rup_eq (K : AK) (l : List Int) (now most : Int) : acall tab fs_alive specs_up fns_rup 100 20 24 [.ptr 0 0, .view [] (.int .i64) l] [.var [.int .i64 now, .int .i64 most]] K =
  (ifB (eqB (lenI l) 0) (eqD (1 :: @List.nil (den (Ty.int IntKind.i64))) (1 :: @List.nil (den (Ty.int IntKind.i64))) (eqI 0 0 (eqI now now (eqI most most (((0 : Int)
    = 0 ∧ lenOK 1 ∧ okN now most) ∧ ((∀ (y : X_rup), (y.1 = 1 :: @List.nil (den (Ty.int IntKind.i64)) ∧ y.2.2.2 = most) ∧ y.2.2.1 = upR y.2.2.2 now y.1 → K (AOut.ret
    (AV.int IntKind.i64 y.2.2.1)) (Blk.var (AV.int IntKind.i64 y.2.2.1 :: AV.int IntKind.i64 y.2.2.2 :: @List.nil AV) :: @List.nil Blk) (@List.nil Nat) (0 :: @List.nil
    Nat)) ∧ True) ∧ ∀ (y : X_rup), (y.1 = 1 :: @List.nil (den (Ty.int IntKind.i64)) ∧ y.2.2.2 = most) ∧ False → K (AOut.ret AV.bad) (Blk.var (AV.int IntKind.i64 y.2.2.1
    :: AV.int IntKind.i64 y.2.2.2 :: @List.nil AV) :: @List.nil Blk) (@List.nil Nat) (0 :: @List.nil Nat)))))) (eqD l l (eqI 0 0 (eqI now now (eqI most most (((0 : Int)
    = 0 ∧ lenOK (lenI l) ∧ okN now most) ∧ ((∀ (y : X_rup), (y.1 = l ∧ y.2.2.2 = most) ∧ y.2.2.1 = upR y.2.2.2 now y.1 → K (AOut.ret (AV.int IntKind.i64 y.2.2.1)) (Blk.var
    (AV.int IntKind.i64 y.2.2.1 :: AV.int IntKind.i64 y.2.2.2 :: @List.nil AV) :: @List.nil Blk) (@List.nil Nat) (0 :: @List.nil Nat)) ∧ True) ∧ ∀ (y : X_rup), (y.1
    = l ∧ y.2.2.2 = most) ∧ False → K (AOut.ret AV.bad) (Blk.var (AV.int IntKind.i64 y.2.2.1 :: AV.int IntKind.i64 y.2.2.2 :: @List.nil AV) :: @List.nil Blk) (@List.nil
    Nat) (0 :: @List.nil Nat))))))) := by kernel_rfl
theorem rup_ok : SpecOK Try.prog 24 rupS := specOK_of (mkCall fsOK_alive specsOK_up fns_rupOK) (fun vs w => Try.call24 vs w) fun args m K h hw hwm => by
  unfold rupS at h
  split at h
  · rename_i l now most
    rw [rup_eq]
    refine ⟨?_⟩
    simp only [wfAL, wfA, wfS, wfM, wfB, and_true, true_and, wfT_int, wfT_str, wfT_bool, wfT_prod] at hw hwm
    obtain ⟨h1, h2, h⟩ := h
    have hle : lenOK (lenI ([1] : List Int)) := by unfold lenOK lenI; simp
    have hnil : ∀ (y : Prop), True := fun _ => trivial
    by_cases h0 : lenI l = 0
    · have hl0 : l = [] := by cases l with | nil => rfl | cons a l => simp only [lenI, List.length_cons] at h0; omega
      have e : upF most now l = upR most now [1] := by subst hl0; rfl
      rw [e] at h
      simp only [need_def, appL_def, ifB_def, impB_def, selB_f, selB_t, selI_def, selX_def, notB_def, andB_def, orB_def, beqB_def, ltB_def, leB_def, eqB_def, seqB_def, eqI_def, eqL_def, eqS_def, eqD_def, eqT_def, imp_def, inI_def, nzI_def, geZ_def, ret_bool, ret_int, Bool.and_eq_true, Bool.or_eq_true, Bool.not_eq_true', Bool.not_eq_false', decide_eq_true_eq, decide_eq_false_iff_not, Bool.and_eq_false_iff, Bool.or_eq_false_iff, Int.not_lt, Int.not_le, true_and, and_true, implies_true, Bool.false_eq_true, Bool.true_eq_false, false_implies, forall_const, reduceCtorEq, if_true, if_false, true_implies, false_and, and_false, false_or, or_false, true_or, or_true, h0, h1, h2, hle, lenI_one]
      repeat' (first | with_reducible rfl | assumption | omega | trivial | (rintro ⟨l', i', now', most'⟩ ⟨hk, hx⟩; dsimp only at hk hx ⊢; obtain ⟨rfl, rfl⟩ := hk; subst hx; exact h) | (rintro ⟨l', i', now', most'⟩ ⟨_, hx⟩; exact hx.elim) | refine ⟨?_, ?_⟩ | intro _)
    · have e : upF most now l = upR most now l := by
        unfold upF upR; rw [if_neg (fun hl => h0 (by subst hl; rfl))]
      rw [e] at h
      simp only [need_def, appL_def, ifB_def, impB_def, selB_f, selB_t, selI_def, selX_def, notB_def, andB_def, orB_def, beqB_def, ltB_def, leB_def, eqB_def, seqB_def, eqI_def, eqL_def, eqS_def, eqD_def, eqT_def, imp_def, inI_def, nzI_def, geZ_def, ret_bool, ret_int, Bool.and_eq_true, Bool.or_eq_true, Bool.not_eq_true', Bool.not_eq_false', decide_eq_true_eq, decide_eq_false_iff_not, Bool.and_eq_false_iff, Bool.or_eq_false_iff, Int.not_lt, Int.not_le, true_and, and_true, implies_true, Bool.false_eq_true, Bool.true_eq_false, false_implies, forall_const, reduceCtorEq, if_true, if_false, true_implies, false_and, and_false, false_or, or_false, true_or, or_true, h0, h1, h2]
      repeat' (first | with_reducible rfl | assumption | omega | trivial | (rintro ⟨l', i', now', most'⟩ ⟨hk, hx⟩; dsimp only at hk hx ⊢; obtain ⟨rfl, rfl⟩ := hk; subst hx; exact h) | (rintro ⟨l', i', now', most'⟩ ⟨_, hx⟩; exact hx.elim) | refine ⟨?_, ?_⟩ | intro _)
  · exact h.elim
noncomputable def specs_rup : Specs := (24, specV [.any, .sl (.int .i64)] (frameS rupS)) :: specs_up
theorem specsOK_rup : SpecsOK Try.prog specs_rup := specsOK_cons (specV_ok (frame_ok rup_ok)) specsOK_up
end Go.Proofs.Ytgifbceiaibejaa.Sx

