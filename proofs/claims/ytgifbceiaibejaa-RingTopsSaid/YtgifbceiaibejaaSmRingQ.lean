/- The queues of a top: what their functions come to. -/
import Derived.Test.YtgifbceiaibejaaSmRingE
namespace Go.Proofs.Ytgifbceiaibejaa.Sx
open Go.RowKit
set_option maxRecDepth 100000
set_option maxHeartbeats 4000000
set_option linter.unusedVariables false
set_option linter.unusedSimpArgs false
@[reducible] def EntT : Ty := .prod (.int .i64) (.int .i64)
/-- is a number no worse than another one -/
def noB (g : Bool) (a b : Int) : Bool := match g with | true => !decide (b < a) | false => !decide (a < b)
def qat (xs : List (den EntT)) (at_ i : Int) : den EntT := nth EntT xs ((at_ + i) % lenI xs)
/-- how many are left when those that are no better than a number are gone -/
def popG (g : Bool) (xs : List (den EntT)) (at_ v : Int) : Nat → Nat
  | 0 => 0
  | k + 1 => if noB g (qat xs at_ k).1 v = true then popG g xs at_ v k else k + 1
def dropG (xs : List (den EntT)) (frm : Int) : Nat → Int → Int × Int
  | 0, a => (a, 0)
  | k + 1, a => if (qat xs a 0).2 < frm then dropG xs frm k ((a + 1) % lenI xs) else (a, k + 1)
def queOK (xs : List (den EntT)) (a n : Int) : Prop := 0 ≤ a ∧ a < lenI xs ∧ 0 ≤ n ∧ n ≤ lenI xs ∧ lenI xs ≤ 2000
def popN (g : Bool) (xs : List (den EntT)) (a v n : Int) : Int := (popG g xs a v n.toNat : Int)
def qpA (g : Bool) (xs : List (den EntT)) (a v n : Int) : Int := if popN g xs a v n = lenI xs then (a + 1) % lenI xs else a
def qpN (g : Bool) (xs : List (den EntT)) (a v n : Int) : Int := if popN g xs a v n = lenI xs then lenI xs else popN g xs a v n + 1
def qpC (g : Bool) (xs : List (den EntT)) (a v p n : Int) : List (den EntT) := setI xs ((qpA g xs a v n + (qpN g xs a v n - 1)) % lenI xs) (v, p)
def qbA (xs : List (den EntT)) (a n frm : Int) : Int := (dropG xs frm n.toNat a).1
def qbN (xs : List (den EntT)) (a n frm : Int) : Int := (dropG xs frm n.toNat a).2
def qbV (xs : List (den EntT)) (a n frm : Int) : Int := if qbN xs a n frm = 0 then 0 else (qat xs (qbA xs a n frm) 0).1
def qbB (xs : List (den EntT)) (a n frm : Int) : Bool := decide (qbN xs a n frm ≠ 0)
theorem remI_nn {a b : Int} (h0 : 0 ≤ a) : remI a b = a % b := by unfold remI; exact Int.tmod_eq_emod_of_nonneg h0
theorem popG_le {g : Bool} {xs : List (den EntT)} {a v : Int} : ∀ k, popG g xs a v k ≤ k
  | 0 => Nat.le_refl _
  | k + 1 => by
    simp only [popG]
    split
    · exact Nat.le_succ_of_le (popG_le k)
    · exact Nat.le_refl _
theorem popN_le {g : Bool} {xs : List (den EntT)} {a v n : Int} (h : 0 ≤ n) : 0 ≤ popN g xs a v n ∧ popN g xs a v n ≤ n := by
  unfold popN
  have := popG_le (g := g) (xs := xs) (a := a) (v := v) n.toNat
  omega
abbrev X_qpop := Int × Int × Bool × List (den EntT) × Int × Int
def sh_qpop : X_qpop → St := fun x => match x with | (a, n, g, xs, v, p) => ⟨setL (rep .bad 98) [(0, .ptr 0 0), (3, .ptr 2 0)], [.var [.own 1, .int .i64 a, .int .i64 n, .bool g], .row 66 EntT xs [], .var [.int .i64 v, .int .i64 p]], [2], [0, 2]⟩
def sx_qpop : AExit → X_qpop → St := fun _ => sh_qpop
def nx_qpop (σ : St) : X_qpop := (cI σ 0 1, cI σ 0 2, cB σ 0 3, rV EntT σ 1, cI σ 2 0, cI σ 2 1)
def Pre_qpop : X_qpop → Prop := fun x => match x with | (a, n, g, xs, v, p) => queOK xs a n
def E0_qpop : X_qpop → X_qpop → Prop := fun x y => match x, y with | (a0, n0, g0, xs0, v0, p0), (a, n, g, xs, v, p) => (a = a0 ∧ g = g0 ∧ xs = xs0 ∧ v = v0 ∧ p = p0) ∧ (n = popN g xs a v n0)
def R_qpop : X_qpop → X_qpop → Prop := fun x y => match x, y with | (a0, n0, g0, xs0, v0, p0), (a, n, g, xs, v, p) => (a = a0 ∧ g = g0 ∧ xs = xs0 ∧ v = v0 ∧ p = p0) ∧ (False)
def D_qpop : X_qpop → LEnds X_qpop := fun x => ⟨[(0, E0_qpop x)], R_qpop x⟩
noncomputable def S_qpop : Summ := summN sh_qpop sx_qpop nx_qpop Pre_qpop D_qpop
def Inv_qpop : X_qpop → X_qpop → Prop := fun x y => match x, y with | (a0, n0, g0, xs0, v0, p0), (a, n, g, xs, v, p) => (a = a0 ∧ g = g0 ∧ xs = xs0 ∧ v = v0 ∧ p = p0) ∧ ((0 ≤ n ∧ n ≤ n0) ∧ popN g xs a v n = popN g xs a v n0)
def M_qpop : X_qpop → X_qpop → Nat := fun x y => match x, y with | (a0, n0, g0, xs0, v0, p0), (a, n, g, xs, v, p) => n.toNat
theorem body_qpop (Inv : X_qpop → Prop) (meas : X_qpop → Nat) (nn : Nat) (EE0 RR : X_qpop → Prop) (a : Int) (n : Int) (g : Bool) (xs : List (den EntT)) (v : Int) (p : Int) : awp tab fs_rnow (acall tab fs_rnow specs_push fns 100 20) [] 100 (loopAt Try.f33 1) (bodyN sh_qpop sx_qpop nx_qpop Inv meas nn ⟨[(0, EE0)], RR⟩) (sh_qpop (a, n, g, xs, v, p)) =
  (ifB (ltB 0 n) (need (nzI (lenI xs)) (need (inI (remI (addW IntKind.i64 a (subW IntKind.i64 n 1)) (lenI xs)) (lenI xs)) (need (inI (remI (addW IntKind.i64 a (subW
    IntKind.i64 n 1)) (lenI xs)) (lenI xs)) (ifB (selB (selB g (ltB v (nth EntT xs (remI (addW IntKind.i64 a (subW IntKind.i64 n 1)) (lenI xs))).fst) false) true (selB
    (notB g) (ltB (nth EntT xs (remI (addW IntKind.i64 a (subW IntKind.i64 n 1)) (lenI xs))).fst v) false)) (eqI a a (eqI n n (eqL g g (eqD xs xs (eqI v v (eqI p p (EE0
    (a, n, g, xs, v, p)))))))) (eqI a a (eqI (subW IntKind.i64 n 1) (subW IntKind.i64 n 1) (eqL g g (eqD xs xs (eqI v v (eqI p p (Inv (a, subW IntKind.i64 n 1, g, xs,
    v, p) ∧ meas (a, subW IntKind.i64 n 1, g, xs, v, p) < nn))))))))))) (eqI a a (eqI n n (eqL g g (eqD xs xs (eqI v v (eqI p p (EE0 (a, n, g, xs, v, p))))))))) := by kernel_rfl
theorem body_qpop_ok : ∀ x y, Pre_qpop x → Inv_qpop x y → wfS (sh_qpop y) → Hd (awp tab fs_rnow (acall tab fs_rnow specs_push fns 100 20) [] 100 (loopAt Try.f33 1) (bodyN sh_qpop sx_qpop nx_qpop (Inv_qpop x) (M_qpop x) (M_qpop x y) (D_qpop x)) (sh_qpop y)) := by
  rintro ⟨a0, n0, g0, xs0, v0, p0⟩ ⟨a, n, g, xs, v, p⟩ hp hI hw
  obtain ⟨⟨rfl, rfl, rfl, rfl, rfl⟩, hI⟩ := hI
  have hw_a := wfC_int hw 0 1 rfl
  have hw_n := wfC_int hw 0 2 rfl
  have hw_xs := wfR_row hw 1 rfl
  have hw_v := wfC_int hw 2 0 rfl
  have hw_p := wfC_int hw 2 1 rfl
  have hp : queOK xs a n0 := hp
  unfold D_qpop
  rw [body_qpop]
  refine ⟨?_⟩
  have hInv : ∀ (n : Int), ((0 ≤ n ∧ n ≤ n0) ∧ popN g xs a v n = popN g xs a v n0) → Inv_qpop (a, n0, g, xs, v, p) (a, n, g, xs, v, p) := fun _ h => ⟨⟨rfl, rfl, rfl, rfl, rfl⟩, h⟩
  generalize hIe : Inv_qpop (a, n0, g, xs, v, p) = Inv at hInv ⊢
  have hMe : ∀ (n : Int), M_qpop (a, n0, g, xs, v, p) (a, n, g, xs, v, p) = n.toNat := fun _ => rfl
  generalize M_qpop (a, n0, g, xs, v, p) = Me at hMe ⊢
  have hE0 : ∀ (n : Int), (n = popN g xs a v n0) → E0_qpop (a, n0, g, xs, v, p) (a, n, g, xs, v, p) := fun _ h => ⟨⟨rfl, rfl, rfl, rfl, rfl⟩, h⟩
  generalize E0_qpop (a, n0, g, xs, v, p) = EE0 at hE0 ⊢
  have hR : ∀ (n : Int), (False) → R_qpop (a, n0, g, xs, v, p) (a, n, g, xs, v, p) := fun _ h => ⟨⟨rfl, rfl, rfl, rfl, rfl⟩, h⟩
  generalize R_qpop (a, n0, g, xs, v, p) = RR at hR ⊢
  obtain ⟨hi, hI⟩ := hI
  unfold queOK at hp
  obtain ⟨k1, k2, k3, k4, k5⟩ := hp
  by_cases h0 : 0 < n
  · rw [ltB_t.2 h0]
    obtain ⟨k, hk⟩ : ∃ k : Nat, n = (k : Int) + 1 := ⟨(n - 1).toNat, by omega⟩
    subst hk
    have e1 : subW .i64 ((k : Int) + 1) 1 = k := by rw [subW64 (by omega) (by omega)]; omega
    have e2 : addW .i64 a k = a + k := addW64 (by omega) (by omega)
    have e3 : remI (a + k) (lenI xs) = (a + k) % lenI xs := remI_nn (by omega)
    have hm0 : 0 ≤ (a + k) % lenI xs := Int.emod_nonneg _ (by omega)
    have hm1 : (a + k) % lenI xs < lenI xs := Int.emod_lt_of_pos _ (by omega)
    have hz : ¬ lenI xs = 0 := by omega
    have hs : popN g xs a v ((k : Int) + 1) = if noB g (qat xs a k).1 v = true then popN g xs a v k else (k : Int) + 1 := by
      unfold popN
      have : ((k : Int) + 1).toNat = k + 1 := by omega
      rw [this]
      simp only [popG]
      have : ((k : Int)).toNat = k := by omega
      rw [this]
      split <;> rfl
    rw [hs] at hI
    simp only [e1, e2, e3]
    unfold qat at hI
    obtain ⟨x, hx⟩ : ∃ x : Int, (nth EntT xs ((a + k) % lenI xs)).1 = x := ⟨_, rfl⟩
    simp only [hx] at hI ⊢
    cases g
    · by_cases hb : x < v
      · simp only [noB, hb, decide_true, Bool.not_true, Bool.false_eq_true, if_false] at hI
        simp only [ltB_t.2 hb]
        simp only [need_def, appL_def, ifB_def, impB_def, selB_f, selB_t, selI_def, selX_def, notB_def, andB_def, orB_def, beqB_def, ltB_def, leB_def, eqB_def, seqB_def, eqI_def, eqL_def, eqS_def, eqD_def, eqT_def, imp_def, inI_def, nzI_def, geZ_def, ret_bool, ret_int, Bool.and_eq_true, Bool.or_eq_true, Bool.not_eq_true', Bool.not_eq_false', decide_eq_true_eq, decide_eq_false_iff_not, Bool.and_eq_false_iff, Bool.or_eq_false_iff, Int.not_lt, Int.not_le, true_and, and_true, implies_true, Bool.false_eq_true, Bool.true_eq_false, false_implies, forall_const, reduceCtorEq, if_true, if_false, true_implies, false_and, and_false, false_or, or_false, true_or, or_true, hz]
        repeat' (first | with_reducible rfl | assumption | omega | trivial | (exact hE0 _ hI) | refine ⟨?_, ?_⟩ | intro _)
      · simp only [noB, hb, decide_false, Bool.not_false, if_true] at hI
        simp only [ltB_f.2 (Int.not_lt.1 hb)]
        simp only [need_def, appL_def, ifB_def, impB_def, selB_f, selB_t, selI_def, selX_def, notB_def, andB_def, orB_def, beqB_def, ltB_def, leB_def, eqB_def, seqB_def, eqI_def, eqL_def, eqS_def, eqD_def, eqT_def, imp_def, inI_def, nzI_def, geZ_def, ret_bool, ret_int, Bool.and_eq_true, Bool.or_eq_true, Bool.not_eq_true', Bool.not_eq_false', decide_eq_true_eq, decide_eq_false_iff_not, Bool.and_eq_false_iff, Bool.or_eq_false_iff, Int.not_lt, Int.not_le, true_and, and_true, implies_true, Bool.false_eq_true, Bool.true_eq_false, false_implies, forall_const, reduceCtorEq, if_true, if_false, true_implies, false_and, and_false, false_or, or_false, true_or, or_true, hz, hMe]
        repeat' (first | with_reducible rfl | assumption | omega | trivial | (exact hInv _ ⟨by omega, hI⟩) | refine ⟨?_, ?_⟩ | intro _)
    · by_cases hb : v < x
      · simp only [noB, hb, decide_true, Bool.not_true, Bool.false_eq_true, if_false] at hI
        simp only [ltB_t.2 hb]
        simp only [need_def, appL_def, ifB_def, impB_def, selB_f, selB_t, selI_def, selX_def, notB_def, andB_def, orB_def, beqB_def, ltB_def, leB_def, eqB_def, seqB_def, eqI_def, eqL_def, eqS_def, eqD_def, eqT_def, imp_def, inI_def, nzI_def, geZ_def, ret_bool, ret_int, Bool.and_eq_true, Bool.or_eq_true, Bool.not_eq_true', Bool.not_eq_false', decide_eq_true_eq, decide_eq_false_iff_not, Bool.and_eq_false_iff, Bool.or_eq_false_iff, Int.not_lt, Int.not_le, true_and, and_true, implies_true, Bool.false_eq_true, Bool.true_eq_false, false_implies, forall_const, reduceCtorEq, if_true, if_false, true_implies, false_and, and_false, false_or, or_false, true_or, or_true, hz]
        repeat' (first | with_reducible rfl | assumption | omega | trivial | (exact hE0 _ hI) | refine ⟨?_, ?_⟩ | intro _)
      · simp only [noB, hb, decide_false, Bool.not_false, if_true] at hI
        simp only [ltB_f.2 (Int.not_lt.1 hb)]
        simp only [need_def, appL_def, ifB_def, impB_def, selB_f, selB_t, selI_def, selX_def, notB_def, andB_def, orB_def, beqB_def, ltB_def, leB_def, eqB_def, seqB_def, eqI_def, eqL_def, eqS_def, eqD_def, eqT_def, imp_def, inI_def, nzI_def, geZ_def, ret_bool, ret_int, Bool.and_eq_true, Bool.or_eq_true, Bool.not_eq_true', Bool.not_eq_false', decide_eq_true_eq, decide_eq_false_iff_not, Bool.and_eq_false_iff, Bool.or_eq_false_iff, Int.not_lt, Int.not_le, true_and, and_true, implies_true, Bool.false_eq_true, Bool.true_eq_false, false_implies, forall_const, reduceCtorEq, if_true, if_false, true_implies, false_and, and_false, false_or, or_false, true_or, or_true, hz, hMe]
        repeat' (first | with_reducible rfl | assumption | omega | trivial | (exact hInv _ ⟨by omega, hI⟩) | refine ⟨?_, ?_⟩ | intro _)
  · have : n = 0 := by omega
    subst this
    rw [ltB_f.2 (by omega)]
    simp only [need_def, appL_def, ifB_def, impB_def, selB_f, selB_t, selI_def, selX_def, notB_def, andB_def, orB_def, beqB_def, ltB_def, leB_def, eqB_def, seqB_def, eqI_def, eqL_def, eqS_def, eqD_def, eqT_def, imp_def, inI_def, nzI_def, geZ_def, ret_bool, ret_int, Bool.and_eq_true, Bool.or_eq_true, Bool.not_eq_true', Bool.not_eq_false', decide_eq_true_eq, decide_eq_false_iff_not, Bool.and_eq_false_iff, Bool.or_eq_false_iff, Int.not_lt, Int.not_le, true_and, and_true, implies_true, Bool.false_eq_true, Bool.true_eq_false, false_implies, forall_const, reduceCtorEq, if_true, if_false, true_implies, false_and, and_false, false_or, or_false, true_or, or_true]
    exact hE0 _ hI
theorem summ_qpop : SummOK Try.prog (loopAt Try.f33 1) S_qpop :=
  summN_ok (L := []) (fuel := 100) tabOK fsOK_rnow (mkCall fsOK_rnow specsOK_push fnsOK) (fun C => mkDraw fsOK_rnow (mkCall fsOK_rnow specsOK_push fnsOK) C) loopsOK_nil Inv_qpop M_qpop
    (fun x hp hw => by
      obtain ⟨a, n, g, xs, v, p⟩ := x
      have hp : queOK xs a n := hp
      have hw_a := wfC_int hw 0 1 rfl
      have hw_n := wfC_int hw 0 2 rfl
      have hw_xs := wfR_row hw 1 rfl
      have hw_v := wfC_int hw 2 0 rfl
      have hw_p := wfC_int hw 2 1 rfl
      unfold queOK at hp
      exact ⟨⟨rfl, rfl, rfl, rfl, rfl⟩, ⟨by omega, by omega⟩, rfl⟩)
    (body_qpop_ok)
noncomputable def fns_qpush : Fns := (33, Try.f33, [(1, S_qpop)]) :: fns
theorem fn_qpush : FnOK Try.prog 33 Try.f33 [(1, S_qpop)] := fnOK_loops Try.func33 (fun vs w => Try.call33 vs w) (by kernel_rfl) fun k S h => by
  simp only [List.mem_cons, Prod.mk.injEq, List.not_mem_nil, or_false] at h
  obtain ⟨rfl, rfl⟩ := h
  exact summ_qpop
theorem fns_qpushOK : FnsOK Try.prog fns_qpush := fnsOK_cons fn_qpush fnsOK
noncomputable def qpushS : List AV → List Blk → AK → Prop := fun args m K => match args, m with | [.ptr 0 0, .agg [.int .i64 v, .int .i64 p]], [.var [.own 1, .int .i64 a, .int .i64 n, .bool g], .row 66 (.prod (.int .i64) (.int .i64)) xs []] => need (queOK xs a n) (K (.ret (.tup [])) [.var [.own 1, .int .i64 (qpA g xs a v n), .int .i64 (qpN g xs a v n), .bool g], .row 66 EntT (qpC g xs a v p n) []] [] [0, 1]) | _, _ => False
theorem qpush_eq (K : AK) (a n : Int) (g : Bool) (v p : Int) (xs : List (den EntT)) : acall tab fs_rnow specs_push fns_qpush 100 20 33 [.ptr 0 0, .agg [.int .i64 v, .int .i64 p]] [.var [.own 1, .int .i64 a, .int .i64 n, .bool g], .row 66 EntT xs []] K =
  (eqI a a (eqI n n (eqL g g (eqD xs xs (eqI v v (eqI p p (queOK xs a n ∧ ((∀ (y : X_qpop), (y.1 = a ∧ y.2.2.1 = g ∧ y.2.2.2.1 = xs ∧ y.2.2.2.2.1 = v ∧ y.2.2.2.2.2
    = p) ∧ y.2.1 = popN y.2.2.1 y.2.2.2.1 y.1 y.2.2.2.2.1 n → ifB (eqB y.2.1 (lenI y.2.2.2.1)) (need (nzI (lenI y.2.2.2.1)) (eqI y.1 y.1 (eqI (addW IntKind.i64 y.1 1)
    (addW IntKind.i64 y.1 1) (eqI (lenI y.2.2.2.1) (lenI y.2.2.2.1) (need (nzI (lenI y.2.2.2.1)) (eqI (remI (addW IntKind.i64 y.1 1) (lenI y.2.2.2.1)) (remI (addW IntKind.i64
    y.1 1) (lenI y.2.2.2.1)) (eqI y.2.1 y.2.1 (eqI (subW IntKind.i64 y.2.1 1) (subW IntKind.i64 y.2.1 1) (eqI (subW IntKind.i64 y.2.1 1) (subW IntKind.i64 y.2.1 1) (eqI
    (addW IntKind.i64 (subW IntKind.i64 y.2.1 1) 1) (addW IntKind.i64 (subW IntKind.i64 y.2.1 1) 1) (eqI (subW IntKind.i64 (addW IntKind.i64 (subW IntKind.i64 y.2.1
    1) 1) 1) (subW IntKind.i64 (addW IntKind.i64 (subW IntKind.i64 y.2.1 1) 1) 1) (eqI y.2.2.2.2.1 y.2.2.2.2.1 (eqI y.2.2.2.2.2 y.2.2.2.2.2 (need (nzI (lenI y.2.2.2.1))
    (need (inI (remI (addW IntKind.i64 (remI (addW IntKind.i64 y.1 1) (lenI y.2.2.2.1)) (subW IntKind.i64 (addW IntKind.i64 (subW IntKind.i64 y.2.1 1) 1) 1)) (lenI y.2.2.2.1))
    (lenI y.2.2.2.1)) (eqI (addW IntKind.i64 (subW IntKind.i64 y.2.1 1) 1) (addW IntKind.i64 (subW IntKind.i64 y.2.1 1) 1) (eqI y.2.2.2.2.1 y.2.2.2.2.1 (eqI y.2.2.2.2.2
    y.2.2.2.2.2 (need (AV.rptr 1 EntT (remI (addW IntKind.i64 (remI (addW IntKind.i64 y.1 1) (lenI y.2.2.2.1)) (subW IntKind.i64 (addW IntKind.i64 (subW IntKind.i64
    y.2.1 1) 1) 1)) (lenI y.2.2.2.1)) 0 = AV.rptr 1 EntT (remI (addW IntKind.i64 (remI (addW IntKind.i64 y.1 1) (lenI y.2.2.2.1)) (subW IntKind.i64 (addW IntKind.i64
    (subW IntKind.i64 y.2.1 1) 1) 1)) (lenI y.2.2.2.1)) 0) (need (inI (remI (addW IntKind.i64 (remI (addW IntKind.i64 y.1 1) (lenI y.2.2.2.1)) (subW IntKind.i64 (addW
    IntKind.i64 (subW IntKind.i64 y.2.1 1) 1) 1)) (lenI y.2.2.2.1)) (lenI y.2.2.2.1)) (K (AOut.ret (AV.tup (@List.nil AV))) (Blk.var (AV.own 1 :: AV.int IntKind.i64
    (remI (addW IntKind.i64 y.1 1) (lenI y.2.2.2.1)) :: AV.int IntKind.i64 (addW IntKind.i64 (subW IntKind.i64 y.2.1 1) 1) :: AV.bool y.2.2.1 :: @List.nil AV) :: Blk.row
    66 EntT (setI y.2.2.2.1 (remI (addW IntKind.i64 (remI (addW IntKind.i64 y.1 1) (lenI y.2.2.2.1)) (subW IntKind.i64 (addW IntKind.i64 (subW IntKind.i64 y.2.1 1) 1)
    1)) (lenI y.2.2.2.1)) (y.2.2.2.2.1, y.2.2.2.2.2)) (@List.nil Nat) :: @List.nil Blk) (@List.nil Nat) (0 :: 1 :: @List.nil Nat)))))))))))))))))))))) (eqI (addW IntKind.i64
    y.2.1 1) (addW IntKind.i64 y.2.1 1) (eqI (subW IntKind.i64 (addW IntKind.i64 y.2.1 1) 1) (subW IntKind.i64 (addW IntKind.i64 y.2.1 1) 1) (eqI y.2.2.2.2.1 y.2.2.2.2.1
    (eqI y.2.2.2.2.2 y.2.2.2.2.2 (need (nzI (lenI y.2.2.2.1)) (need (inI (remI (addW IntKind.i64 y.1 (subW IntKind.i64 (addW IntKind.i64 y.2.1 1) 1)) (lenI y.2.2.2.1))
    (lenI y.2.2.2.1)) (eqI (addW IntKind.i64 y.2.1 1) (addW IntKind.i64 y.2.1 1) (eqI y.2.2.2.2.1 y.2.2.2.2.1 (eqI y.2.2.2.2.2 y.2.2.2.2.2 (need (AV.rptr 1 EntT (remI
    (addW IntKind.i64 y.1 (subW IntKind.i64 (addW IntKind.i64 y.2.1 1) 1)) (lenI y.2.2.2.1)) 0 = AV.rptr 1 EntT (remI (addW IntKind.i64 y.1 (subW IntKind.i64 (addW IntKind.i64
    y.2.1 1) 1)) (lenI y.2.2.2.1)) 0) (need (inI (remI (addW IntKind.i64 y.1 (subW IntKind.i64 (addW IntKind.i64 y.2.1 1) 1)) (lenI y.2.2.2.1)) (lenI y.2.2.2.1)) (K
    (AOut.ret (AV.tup (@List.nil AV))) (Blk.var (AV.own 1 :: AV.int IntKind.i64 y.1 :: AV.int IntKind.i64 (addW IntKind.i64 y.2.1 1) :: AV.bool y.2.2.1 :: @List.nil
    AV) :: Blk.row 66 EntT (setI y.2.2.2.1 (remI (addW IntKind.i64 y.1 (subW IntKind.i64 (addW IntKind.i64 y.2.1 1) 1)) (lenI y.2.2.2.1)) (y.2.2.2.2.1, y.2.2.2.2.2))
    (@List.nil Nat) :: @List.nil Blk) (@List.nil Nat) (0 :: 1 :: @List.nil Nat)))))))))))))) ∧ True) ∧ ∀ (y : X_qpop), (y.1 = a ∧ y.2.2.1 = g ∧ y.2.2.2.1 = xs ∧ y.2.2.2.2.1
    = v ∧ y.2.2.2.2.2 = p) ∧ False → K (AOut.ret (AV.tup (@List.nil AV))) (Blk.var (AV.own 1 :: AV.int IntKind.i64 y.1 :: AV.int IntKind.i64 y.2.1 :: AV.bool y.2.2.1
    :: @List.nil AV) :: Blk.row 66 EntT y.2.2.2.1 (@List.nil Nat) :: @List.nil Blk) (@List.nil Nat) (0 :: @List.nil Nat)))))))) := by kernel_rfl
theorem qpush_ok : SpecOK Try.prog 33 qpushS := specOK_of (mkCall fsOK_rnow specsOK_push fns_qpushOK) (fun vs w => Try.call33 vs w) fun args m K h hw hwm => by
  unfold qpushS at h
  split at h
  · rename_i a n g v p xs
    rw [qpush_eq]
    refine ⟨?_⟩
    simp only [wfAL, wfA, wfS, wfM, wfB, and_true, true_and, wfT_int, wfT_str, wfT_bool, wfT_prod] at hw hwm
    obtain ⟨h1, h⟩ := h
    have hk := h1
    unfold queOK at hk
    obtain ⟨k1, k2, k3, k4, k5⟩ := hk
    have hz : ¬ lenI xs = 0 := by omega
    simp only [need_def, appL_def, ifB_def, impB_def, selB_f, selB_t, selI_def, selX_def, notB_def, andB_def, orB_def, beqB_def, ltB_def, leB_def, eqB_def, seqB_def, eqI_def, eqL_def, eqS_def, eqD_def, eqT_def, imp_def, inI_def, nzI_def, geZ_def, ret_bool, ret_int, Bool.and_eq_true, Bool.or_eq_true, Bool.not_eq_true', Bool.not_eq_false', decide_eq_true_eq, decide_eq_false_iff_not, Bool.and_eq_false_iff, Bool.or_eq_false_iff, Int.not_lt, Int.not_le, true_and, and_true, implies_true, Bool.false_eq_true, Bool.true_eq_false, false_implies, forall_const, reduceCtorEq, if_true, if_false, true_implies, false_and, and_false, false_or, or_false, true_or, or_true, h1]
    rintro ⟨a', n', g', xs', v', p'⟩ ⟨hk, hn⟩
    dsimp only at hk hn ⊢
    obtain ⟨rfl, rfl, rfl, rfl, rfl⟩ := hk
    have hc := popN_le (g := g') (xs := xs') (a := a') (v := v') k3
    unfold qpC qpA qpN at h
    rw [← hn] at h hc
    have e1 : addW .i64 a' 1 = a' + 1 := addW64 (by omega) (by omega)
    have e2 : subW .i64 n' 1 = n' - 1 := subW64 (by omega) (by omega)
    have e3 : addW .i64 n' 1 = n' + 1 := addW64 (by omega) (by omega)
    have e4 : addW .i64 (n' - 1) 1 = n' := by rw [addW64 (by omega) (by omega)]; omega
    have e5 : subW .i64 (n' + 1) 1 = n' := by rw [subW64 (by omega) (by omega)]; omega
    have e6 : remI (a' + 1) (lenI xs') = (a' + 1) % lenI xs' := remI_nn (by omega)
    have m0 : 0 ≤ (a' + 1) % lenI xs' := Int.emod_nonneg _ (by omega)
    have m1 : (a' + 1) % lenI xs' < lenI xs' := Int.emod_lt_of_pos _ (by omega)
    have e7 : addW .i64 ((a' + 1) % lenI xs') (n' - 1) = (a' + 1) % lenI xs' + (n' - 1) := addW64 (by omega) (by omega)
    have e8 : addW .i64 a' n' = a' + n' := addW64 (by omega) (by omega)
    have e9 : remI (a' + n') (lenI xs') = (a' + n') % lenI xs' := remI_nn (by omega)
    have m4 : 0 ≤ (a' + n') % lenI xs' := Int.emod_nonneg _ (by omega)
    have m5 : (a' + n') % lenI xs' < lenI xs' := Int.emod_lt_of_pos _ (by omega)
    simp only [e1, e2, e3, e4, e5, e6, e7, e8, e9]
    refine ⟨fun he => ?_, fun he => ?_⟩
    · have hx : remI ((a' + 1) % lenI xs' + (n' - 1)) (lenI xs') = ((a' + 1) % lenI xs' + (lenI xs' - 1)) % lenI xs' := by rw [remI_nn (by omega), he]
      have m2 : 0 ≤ ((a' + 1) % lenI xs' + (lenI xs' - 1)) % lenI xs' := Int.emod_nonneg _ (by omega)
      have m3 : ((a' + 1) % lenI xs' + (lenI xs' - 1)) % lenI xs' < lenI xs' := Int.emod_lt_of_pos _ (by omega)
      rw [if_pos he, if_pos he] at h
      simp only [hx]
      rw [← he] at h m2 m3 hz ⊢
      repeat' (first | with_reducible rfl | assumption | omega | refine ⟨?_, ?_⟩)
    · have hx : n' + 1 - 1 = n' := by omega
      rw [if_neg he, if_neg he, hx] at h
      repeat' (first | with_reducible rfl | assumption | omega | refine ⟨?_, ?_⟩)
  · exact h.elim
noncomputable def specs_qpush : Specs := (33, frameS qpushS) :: specs_push
theorem specsOK_qpush : SpecsOK Try.prog specs_qpush := specsOK_cons (frame_ok qpush_ok) specsOK_push
theorem drop_step {xs : List (den EntT)} {frm a n : Int} (h : 0 < n) : dropG xs frm n.toNat a = if (qat xs a 0).2 < frm then dropG xs frm (n - 1).toNat ((a + 1) % lenI xs) else (a, n) := by
  obtain ⟨k, hk⟩ : ∃ k : Nat, n = (k : Int) + 1 := ⟨(n - 1).toNat, by omega⟩
  subst hk
  have e1 : ((k : Int) + 1).toNat = k + 1 := by omega
  have e2 : ((k : Int) + 1 - 1).toNat = k := by omega
  rw [e1, e2]
  simp only [dropG]
theorem drop_zero {xs : List (den EntT)} {frm a : Int} : dropG xs frm (0 : Int).toNat a = (a, 0) := rfl
abbrev X_qdrop := Int × Int × Int × Bool × List (den EntT)
def sh_qdrop : X_qdrop → St := fun x => match x with | (frm, a, n, g, xs) => ⟨setL (rep .bad 52) [(1, .int .i64 frm), (0, .ptr 0 0)], [.var [.own 1, .int .i64 a, .int .i64 n, .bool g], .row 66 EntT xs []], [], [0]⟩
def sx_qdrop : AExit → X_qdrop → St := fun _ => sh_qdrop
def nx_qdrop (σ : St) : X_qdrop := (gI σ 1, cI σ 0 1, cI σ 0 2, cB σ 0 3, rV EntT σ 1)
def Pre_qdrop : X_qdrop → Prop := fun x => match x with | (frm, a, n, g, xs) => queOK xs a n
def E0_qdrop : X_qdrop → X_qdrop → Prop := fun x y => match x, y with | (frm0, a0, n0, g0, xs0), (frm, a, n, g, xs) => (frm = frm0 ∧ g = g0 ∧ xs = xs0) ∧ (queOK xs a n ∧ a = qbA xs a0 n0 frm ∧ n = qbN xs a0 n0 frm)
def R_qdrop : X_qdrop → X_qdrop → Prop := fun x y => match x, y with | (frm0, a0, n0, g0, xs0), (frm, a, n, g, xs) => (frm = frm0 ∧ g = g0 ∧ xs = xs0) ∧ (False)
def D_qdrop : X_qdrop → LEnds X_qdrop := fun x => ⟨[(0, E0_qdrop x)], R_qdrop x⟩
noncomputable def S_qdrop : Summ := summN sh_qdrop sx_qdrop nx_qdrop Pre_qdrop D_qdrop
def Inv_qdrop : X_qdrop → X_qdrop → Prop := fun x y => match x, y with | (frm0, a0, n0, g0, xs0), (frm, a, n, g, xs) => (frm = frm0 ∧ g = g0 ∧ xs = xs0) ∧ (queOK xs a n ∧ dropG xs frm n.toNat a = dropG xs frm n0.toNat a0)
def M_qdrop : X_qdrop → X_qdrop → Nat := fun x y => match x, y with | (frm0, a0, n0, g0, xs0), (frm, a, n, g, xs) => n.toNat
theorem body_qdrop (Inv : X_qdrop → Prop) (meas : X_qdrop → Nat) (nn : Nat) (EE0 RR : X_qdrop → Prop) (frm : Int) (a : Int) (n : Int) (g : Bool) (xs : List (den EntT)) : awp tab fs_rnow (acall tab fs_rnow specs_qpush fns 100 20) [] 100 (loopAt Try.f40 1) (bodyN sh_qdrop sx_qdrop nx_qdrop Inv meas nn ⟨[(0, EE0)], RR⟩) (sh_qdrop (frm, a, n, g, xs)) =
  (ifB (ltB 0 n) (need (nzI (lenI xs)) (need (inI (remI (addW IntKind.i64 a 0) (lenI xs)) (lenI xs)) (need (inI (remI (addW IntKind.i64 a 0) (lenI xs)) (lenI xs)) (ifB
    (ltB (nth EntT xs (remI (addW IntKind.i64 a 0) (lenI xs))).snd frm) (need (nzI (lenI xs)) (eqI a a (eqI (addW IntKind.i64 a 1) (addW IntKind.i64 a 1) (eqI (lenI
    xs) (lenI xs) (need (nzI (lenI xs)) (eqI (remI (addW IntKind.i64 a 1) (lenI xs)) (remI (addW IntKind.i64 a 1) (lenI xs)) (eqI n n (eqI (subW IntKind.i64 n 1) (subW
    IntKind.i64 n 1) (eqI (subW IntKind.i64 n 1) (subW IntKind.i64 n 1) (eqI frm frm (eqI (remI (addW IntKind.i64 a 1) (lenI xs)) (remI (addW IntKind.i64 a 1) (lenI
    xs)) (eqI (subW IntKind.i64 n 1) (subW IntKind.i64 n 1) (eqL g g (eqD xs xs (Inv (frm, remI (addW IntKind.i64 a 1) (lenI xs), subW IntKind.i64 n 1, g, xs) ∧ meas
    (frm, remI (addW IntKind.i64 a 1) (lenI xs), subW IntKind.i64 n 1, g, xs) < nn))))))))))))))) (eqI frm frm (eqI a a (eqI n n (eqL g g (eqD xs xs (EE0 (frm, a, n,
    g, xs))))))))))) (need (eqT false false) (eqI frm frm (eqI a a (eqI n n (eqL g g (eqD xs xs (EE0 (frm, a, n, g, xs))))))))) := by kernel_rfl
theorem body_qdrop_ok : ∀ x y, Pre_qdrop x → Inv_qdrop x y → wfS (sh_qdrop y) → Hd (awp tab fs_rnow (acall tab fs_rnow specs_qpush fns 100 20) [] 100 (loopAt Try.f40 1) (bodyN sh_qdrop sx_qdrop nx_qdrop (Inv_qdrop x) (M_qdrop x) (M_qdrop x y) (D_qdrop x)) (sh_qdrop y)) := by
  rintro ⟨frm0, a0, n0, g0, xs0⟩ ⟨frm, a, n, g, xs⟩ hp hI hw
  obtain ⟨⟨rfl, rfl, rfl⟩, hI⟩ := hI
  have hw_frm := wfL_int hw 1 rfl
  have hw_a := wfC_int hw 0 1 rfl
  have hw_n := wfC_int hw 0 2 rfl
  have hw_xs := wfR_row hw 1 rfl
  have hp : queOK xs a0 n0 := hp
  unfold D_qdrop
  rw [body_qdrop]
  refine ⟨?_⟩
  have hInv : ∀ (a : Int) (n : Int), (queOK xs a n ∧ dropG xs frm n.toNat a = dropG xs frm n0.toNat a0) → Inv_qdrop (frm, a0, n0, g, xs) (frm, a, n, g, xs) := fun _ _ h => ⟨⟨rfl, rfl, rfl⟩, h⟩
  generalize hIe : Inv_qdrop (frm, a0, n0, g, xs) = Inv at hInv ⊢
  have hMe : ∀ (a : Int) (n : Int), M_qdrop (frm, a0, n0, g, xs) (frm, a, n, g, xs) = n.toNat := fun _ _ => rfl
  generalize M_qdrop (frm, a0, n0, g, xs) = Me at hMe ⊢
  have hE0 : ∀ (a : Int) (n : Int), (queOK xs a n ∧ a = qbA xs a0 n0 frm ∧ n = qbN xs a0 n0 frm) → E0_qdrop (frm, a0, n0, g, xs) (frm, a, n, g, xs) := fun _ _ h => ⟨⟨rfl, rfl, rfl⟩, h⟩
  generalize E0_qdrop (frm, a0, n0, g, xs) = EE0 at hE0 ⊢
  have hR : ∀ (a : Int) (n : Int), (False) → R_qdrop (frm, a0, n0, g, xs) (frm, a, n, g, xs) := fun _ _ h => ⟨⟨rfl, rfl, rfl⟩, h⟩
  generalize R_qdrop (frm, a0, n0, g, xs) = RR at hR ⊢
  obtain ⟨hi, hI⟩ := hI
  have hi' := hi
  unfold queOK at hi'
  obtain ⟨k1, k2, k3, k4, k5⟩ := hi'
  have hz : ¬ lenI xs = 0 := by omega
  have e1 : addW .i64 a 0 = a := by rw [addW64 (by omega) (by omega)]; omega
  have e2 : remI a (lenI xs) = a := by rw [remI_nn (by omega), Int.emod_eq_of_lt k1 k2]
  have e3 : addW .i64 a 1 = a + 1 := addW64 (by omega) (by omega)
  have e4 : remI (a + 1) (lenI xs) = (a + 1) % lenI xs := remI_nn (by omega)
  have e5 : subW .i64 n 1 = n - 1 := subW64 (by omega) (by omega)
  have m0 : 0 ≤ (a + 1) % lenI xs := Int.emod_nonneg _ (by omega)
  have m1 : (a + 1) % lenI xs < lenI xs := Int.emod_lt_of_pos _ (by omega)
  have hq : qat xs a 0 = nth EntT xs a := by unfold qat; rw [Int.add_zero, Int.emod_eq_of_lt k1 k2]
  simp only [e1, e2, e3, e4, e5]
  by_cases h0 : 0 < n
  · rw [drop_step h0, hq] at hI
    rw [ltB_t.2 h0]
    by_cases hb : (nth EntT xs a).2 < frm
    · rw [if_pos hb] at hI
      have hi2 : queOK xs ((a + 1) % lenI xs) (n - 1) := by unfold queOK; omega
      simp only [ltB_t.2 hb]
      simp only [need_def, appL_def, ifB_def, impB_def, selB_f, selB_t, selI_def, selX_def, notB_def, andB_def, orB_def, beqB_def, ltB_def, leB_def, eqB_def, seqB_def, eqI_def, eqL_def, eqS_def, eqD_def, eqT_def, imp_def, inI_def, nzI_def, geZ_def, ret_bool, ret_int, Bool.and_eq_true, Bool.or_eq_true, Bool.not_eq_true', Bool.not_eq_false', decide_eq_true_eq, decide_eq_false_iff_not, Bool.and_eq_false_iff, Bool.or_eq_false_iff, Int.not_lt, Int.not_le, true_and, and_true, implies_true, Bool.false_eq_true, Bool.true_eq_false, false_implies, forall_const, reduceCtorEq, if_true, if_false, true_implies, false_and, and_false, false_or, or_false, true_or, or_true, hz, hMe]
      repeat' (first | with_reducible rfl | assumption | omega | trivial | (exact hInv _ _ ⟨hi2, hI⟩) | refine ⟨?_, ?_⟩ | intro _)
    · rw [if_neg hb] at hI
      have he : queOK xs a n ∧ a = qbA xs a0 n0 frm ∧ n = qbN xs a0 n0 frm := by
        unfold qbA qbN; rw [← hI]; exact ⟨hi, rfl, rfl⟩
      simp only [ltB_f.2 (Int.not_lt.1 hb)]
      simp only [need_def, appL_def, ifB_def, impB_def, selB_f, selB_t, selI_def, selX_def, notB_def, andB_def, orB_def, beqB_def, ltB_def, leB_def, eqB_def, seqB_def, eqI_def, eqL_def, eqS_def, eqD_def, eqT_def, imp_def, inI_def, nzI_def, geZ_def, ret_bool, ret_int, Bool.and_eq_true, Bool.or_eq_true, Bool.not_eq_true', Bool.not_eq_false', decide_eq_true_eq, decide_eq_false_iff_not, Bool.and_eq_false_iff, Bool.or_eq_false_iff, Int.not_lt, Int.not_le, true_and, and_true, implies_true, Bool.false_eq_true, Bool.true_eq_false, false_implies, forall_const, reduceCtorEq, if_true, if_false, true_implies, false_and, and_false, false_or, or_false, true_or, or_true, hz, hMe]
      repeat' (first | with_reducible rfl | assumption | omega | trivial | (exact hE0 _ _ he) | refine ⟨?_, ?_⟩ | intro _)
  · have hn : n = 0 := by omega
    subst hn
    rw [drop_zero] at hI
    have he : queOK xs a 0 ∧ a = qbA xs a0 n0 frm ∧ 0 = qbN xs a0 n0 frm := by
      unfold qbA qbN; rw [← hI]; exact ⟨hi, rfl, rfl⟩
    rw [ltB_f.2 (by omega)]
    simp only [need_def, appL_def, ifB_def, impB_def, selB_f, selB_t, selI_def, selX_def, notB_def, andB_def, orB_def, beqB_def, ltB_def, leB_def, eqB_def, seqB_def, eqI_def, eqL_def, eqS_def, eqD_def, eqT_def, imp_def, inI_def, nzI_def, geZ_def, ret_bool, ret_int, Bool.and_eq_true, Bool.or_eq_true, Bool.not_eq_true', Bool.not_eq_false', decide_eq_true_eq, decide_eq_false_iff_not, Bool.and_eq_false_iff, Bool.or_eq_false_iff, Int.not_lt, Int.not_le, true_and, and_true, implies_true, Bool.false_eq_true, Bool.true_eq_false, false_implies, forall_const, reduceCtorEq, if_true, if_false, true_implies, false_and, and_false, false_or, or_false, true_or, or_true, hz, hMe]
    repeat' (first | with_reducible rfl | assumption | omega | trivial | (exact hE0 _ _ he) | refine ⟨?_, ?_⟩ | intro _)
theorem summ_qdrop : SummOK Try.prog (loopAt Try.f40 1) S_qdrop :=
  summN_ok (L := []) (fuel := 100) tabOK fsOK_rnow (mkCall fsOK_rnow specsOK_qpush fnsOK) (fun C => mkDraw fsOK_rnow (mkCall fsOK_rnow specsOK_qpush fnsOK) C) loopsOK_nil Inv_qdrop M_qdrop
    (fun x hp hw => by
      obtain ⟨frm, a, n, g, xs⟩ := x
      have hp : queOK xs a n := hp
      have hw_frm := wfL_int hw 1 rfl
      have hw_a := wfC_int hw 0 1 rfl
      have hw_n := wfC_int hw 0 2 rfl
      have hw_xs := wfR_row hw 1 rfl
      exact ⟨⟨rfl, rfl, rfl⟩, hp, rfl⟩)
    (body_qdrop_ok)
noncomputable def fns_qbest : Fns := (40, Try.f40, [(1, S_qdrop)]) :: fns
theorem fn_qbest : FnOK Try.prog 40 Try.f40 [(1, S_qdrop)] := fnOK_loops Try.func40 (fun vs w => Try.call40 vs w) (by kernel_rfl) fun k S h => by
  simp only [List.mem_cons, Prod.mk.injEq, List.not_mem_nil, or_false] at h
  obtain ⟨rfl, rfl⟩ := h
  exact summ_qdrop
theorem fns_qbestOK : FnsOK Try.prog fns_qbest := fnsOK_cons fn_qbest fnsOK
noncomputable def qbestS : List AV → List Blk → AK → Prop := fun args m K => match args, m with | [.ptr 0 0, .int .i64 frm], [.var [.own 1, .int .i64 a, .int .i64 n, .bool g], .row 66 (.prod (.int .i64) (.int .i64)) xs []] => need (queOK xs a n) (K (.ret (.tup [.int .i64 (qbV xs a n frm), .bool (qbB xs a n frm)])) [.var [.own 1, .int .i64 (qbA xs a n frm), .int .i64 (qbN xs a n frm), .bool g], .row 66 EntT xs []] [] [0]) | _, _ => False
theorem qbest_eq (K : AK) (frm a n : Int) (g : Bool) (xs : List (den EntT)) : acall tab fs_rnow specs_qpush fns_qbest 100 20 40 [.ptr 0 0, .int .i64 frm] [.var [.own 1, .int .i64 a, .int .i64 n, .bool g], .row 66 EntT xs []] K =
  (eqI frm frm (eqI a a (eqI n n (eqL g g (eqD xs xs (queOK xs a n ∧ ((∀ (y : X_qdrop), (y.1 = frm ∧ y.2.2.2.1 = g ∧ y.2.2.2.2 = xs) ∧ queOK y.2.2.2.2 y.2.1 y.2.2.1
    ∧ y.2.1 = qbA y.2.2.2.2 a n y.1 ∧ y.2.2.1 = qbN y.2.2.2.2 a n y.1 → ifB (eqB y.2.2.1 0) (K (AOut.ret (AV.tup (AV.int IntKind.i64 0 :: AV.bool false :: @List.nil
    AV))) (Blk.var (AV.own 1 :: AV.int IntKind.i64 y.2.1 :: AV.int IntKind.i64 y.2.2.1 :: AV.bool y.2.2.2.1 :: @List.nil AV) :: Blk.row 66 EntT y.2.2.2.2 (@List.nil
    Nat) :: @List.nil Blk) (@List.nil Nat) (0 :: @List.nil Nat)) (need (nzI (lenI y.2.2.2.2)) (need (inI (remI (addW IntKind.i64 y.2.1 0) (lenI y.2.2.2.2)) (lenI y.2.2.2.2))
    (need (inI (remI (addW IntKind.i64 y.2.1 0) (lenI y.2.2.2.2)) (lenI y.2.2.2.2)) (K (AOut.ret (AV.tup (AV.int IntKind.i64 (nth EntT y.2.2.2.2 (remI (addW IntKind.i64
    y.2.1 0) (lenI y.2.2.2.2))).fst :: AV.bool true :: @List.nil AV))) (Blk.var (AV.own 1 :: AV.int IntKind.i64 y.2.1 :: AV.int IntKind.i64 y.2.2.1 :: AV.bool y.2.2.2.1
    :: @List.nil AV) :: Blk.row 66 EntT y.2.2.2.2 (@List.nil Nat) :: @List.nil Blk) (@List.nil Nat) (0 :: @List.nil Nat)))))) ∧ True) ∧ ∀ (y : X_qdrop), (y.1 = frm ∧
    y.2.2.2.1 = g ∧ y.2.2.2.2 = xs) ∧ False → K (AOut.ret (AV.tup (AV.bad :: AV.bad :: @List.nil AV))) (Blk.var (AV.own 1 :: AV.int IntKind.i64 y.2.1 :: AV.int IntKind.i64
    y.2.2.1 :: AV.bool y.2.2.2.1 :: @List.nil AV) :: Blk.row 66 EntT y.2.2.2.2 (@List.nil Nat) :: @List.nil Blk) (@List.nil Nat) (0 :: @List.nil Nat))))))) := by kernel_rfl
theorem qbest_ok : SpecOK Try.prog 40 qbestS := specOK_of (mkCall fsOK_rnow specsOK_qpush fns_qbestOK) (fun vs w => Try.call40 vs w) fun args m K h hw hwm => by
  unfold qbestS at h
  split at h
  · rename_i frm a n g xs
    rw [qbest_eq]
    refine ⟨?_⟩
    simp only [wfAL, wfA, wfS, wfM, wfB, and_true, true_and, wfT_int, wfT_str, wfT_bool, wfT_prod] at hw hwm
    obtain ⟨h1, h⟩ := h
    have hk := h1
    unfold queOK at hk
    obtain ⟨k1, k2, k3, k4, k5⟩ := hk
    have hz : ¬ lenI xs = 0 := by omega
    simp only [need_def, appL_def, ifB_def, impB_def, selB_f, selB_t, selI_def, selX_def, notB_def, andB_def, orB_def, beqB_def, ltB_def, leB_def, eqB_def, seqB_def, eqI_def, eqL_def, eqS_def, eqD_def, eqT_def, imp_def, inI_def, nzI_def, geZ_def, ret_bool, ret_int, Bool.and_eq_true, Bool.or_eq_true, Bool.not_eq_true', Bool.not_eq_false', decide_eq_true_eq, decide_eq_false_iff_not, Bool.and_eq_false_iff, Bool.or_eq_false_iff, Int.not_lt, Int.not_le, true_and, and_true, implies_true, Bool.false_eq_true, Bool.true_eq_false, false_implies, forall_const, reduceCtorEq, if_true, if_false, true_implies, false_and, and_false, false_or, or_false, true_or, or_true, h1]
    rintro ⟨frm', a', n', g', xs'⟩ ⟨hk, hi, ha, hn⟩
    dsimp only at hk hi ha hn ⊢
    obtain ⟨rfl, rfl, rfl⟩ := hk
    unfold queOK at hi
    have e1 : addW .i64 a' 0 = a' := by rw [addW64 (by omega) (by omega)]; omega
    have e2 : remI a' (lenI xs') = a' := by rw [remI_nn (by omega), Int.emod_eq_of_lt hi.1 hi.2.1]
    have hq : qat xs' a' 0 = nth EntT xs' a' := by unfold qat; rw [Int.add_zero, Int.emod_eq_of_lt hi.1 hi.2.1]
    unfold qbV qbB at h
    rw [← ha, ← hn, hq] at h
    simp only [e1, e2]
    refine ⟨fun he => ?_, fun he => ?_⟩
    · rw [if_pos he] at h
      subst he
      simpa using h
    · rw [if_neg he] at h
      have : decide (n' ≠ 0) = true := by simpa using he
      rw [this] at h
      repeat' (first | with_reducible rfl | assumption | omega | refine ⟨?_, ?_⟩)
  · exact h.elim
noncomputable def specs_qbest : Specs := (40, frameS qbestS) :: specs_qpush
theorem specsOK_qbest : SpecsOK Try.prog specs_qbest := specsOK_cons (frame_ok qbest_ok) specsOK_qpush
end Go.Proofs.Ytgifbceiaibejaa.Sx

