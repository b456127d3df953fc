/- Ytgifbceiaibejaa: the law RingLast returns true for every input, and its arguments read as they did: no condition. -/
import Derived.Test.YtgifbceiaibejaaRows
import Derived.Test.YtgifbceiaibejaaSxV
import Derived.Test.YtgifbceiaibejaaSmRingD
import Derived.HandedShaped
namespace Go.Proofs.Ytgifbceiaibejaa
open Go.ChangeShapes Go.WideShapes Go.ChangeAt Go.RowKit Sx
set_option maxRecDepth 100000
set_option linter.unusedVariables false
set_option linter.unusedSimpArgs false
set_option maxHeartbeats 4000000

def lastOK (xs : List Int) (p c : Int) (l : List Int) (i n : Int) : Prop := (lenI xs = n ∧ 1 ≤ n ∧ n ≤ 300) ∧ p = i % n ∧ c = min i n ∧ ∀ j : Int, 0 ≤ j → j < i → i ≤ n + j → nth (.int .i64) xs (j % n) = nth (.int .i64) l j
theorem pushX_one {xs : List Int} {p n v : Int} : pushX xs p n (v :: @List.nil (den (.int .i64))) = setI xs p v := rfl
theorem pushP_one {xs : List Int} {p n v : Int} : pushP xs p n (v :: @List.nil (den (.int .i64))) = if p + 1 = lenI xs then 0 else p + 1 := by
  unfold pushP; simp only [pushG]
theorem pushN_one {xs : List Int} {p n v : Int} : pushN xs p n (v :: @List.nil (den (.int .i64))) = if n + 1 ≤ lenI xs then n + 1 else lenI xs := by
  unfold pushN; simp only [pushG]
theorem last_step {xs : List Int} {p c : Int} {l : List Int} {i n : Int} (hi : 0 ≤ i) (h : lastOK xs p c l i n) :
    lastOK (setI xs p (nth (.int .i64) l i)) (if p + 1 = lenI xs then 0 else p + 1) (if c + 1 ≤ lenI xs then c + 1 else lenI xs) l (i + 1) n := by
  unfold lastOK at h ⊢
  obtain ⟨⟨o1, o2, o3⟩, o4, o5, o6⟩ := h
  have hp0 : 0 ≤ p := by rw [o4]; exact Int.emod_nonneg _ (by omega)
  have hp1 : p < n := by rw [o4]; exact Int.emod_lt_of_pos _ (by omega)
  have hd := Int.emod_add_mul_ediv i n
  refine ⟨⟨by rw [lenI_setI]; exact o1, o2, o3⟩, ?_, ?_, fun j h0 h1 h2 => ?_⟩
  · rw [o1]
    split
    · rename_i e
      have : i + 1 = 0 + n * (i / n + 1) := by rw [Int.mul_add]; omega
      rw [this, Int.add_mul_emod_self_left]; rfl
    · have : i + 1 = (p + 1) + n * (i / n) := by omega
      rw [this, Int.add_mul_emod_self_left, Int.emod_eq_of_lt (by omega) (by omega)]
  · rw [o1]; split <;> omega
  · by_cases hj : j = i
    · subst hj
      rw [← o4]
      unfold nth setI
      have : p.toNat < xs.length := by unfold lenI at o1; omega
      simp [List.getD, this]
    · have hji : j % n ≠ p := by
        intro e
        rw [o4] at e
        have := Int.emod_emod_of_dvd
        have h3 : (i - j) % n = 0 := by rw [Int.sub_emod, ← e]; simp
        rw [Int.emod_eq_of_lt (by omega) (by omega)] at h3
        omega
      have hm0 : 0 ≤ j % n := Int.emod_nonneg _ (by omega)
      have := o6 j h0 (by omega) (by omega)
      rw [← this]
      unfold nth setI
      simp only [List.getD, List.getElem?_set]
      rw [if_neg (by omega)]
abbrev X_lastI := Int × List (den (.int .i64)) × Int × Int × Int × Int × List (den (.int .i64)) × List (den (.int .i64)) × Bool
def sh_lastI : X_lastI → St := fun x => match x with | (n, l, i, k, p, c, xs, w, r) => ⟨setL (rep .bad 106) [(0, .int .i64 n), (1, .view [] (.int .i64) l), (7, .int .i64 i), (8, .int .i64 k), (5, .ptr 1 0)], [.row 3 (.int .i64) xs [], .var [.own 0, .int .i64 p, .int .i64 c], .row 3 (.int .i64) w []], [0, 1, 2], [0, 1, 2]⟩
def shr_lastI : X_lastI → St := fun x => match x with | (n, l, i, k, p, c, xs, w, r) => ⟨setL (rep .bad 106) [(0, .int .i64 n), (1, .view [] (.int .i64) l), (7, .int .i64 i), (8, .int .i64 k), (4, .bool r), (5, .ptr 1 0)], [.row 3 (.int .i64) xs [], .var [.own 0, .int .i64 p, .int .i64 c], .row 3 (.int .i64) w []], [0, 1, 2], [0, 1, 2]⟩
def sx_lastI : AExit → X_lastI → St := fun e => match e with | .ret => shr_lastI | _ => sh_lastI
def nx_lastI (σ : St) : X_lastI := (gI σ 0, gV (.int .i64) σ 1, gI σ 7, gI σ 8, cI σ 1 1, cI σ 1 2, rV (.int .i64) σ 0, rV (.int .i64) σ 2, gB σ 4)
def Pre_lastI : X_lastI → Prop := fun x => match x with | (n, l, i, k, p, c, xs, w, r) => k = 0 ∧ lastOK xs p c l (i + 1) n ∧ (0 ≤ i ∧ i < lenI l) ∧ lenI l ≤ 300
def E2_lastI : X_lastI → X_lastI → Prop := fun x y => match x, y with | (n0, l0, i0, k0, p0, c0, xs0, w0, r0), (n, l, i, k, p, c, xs, w, r) => (n = n0 ∧ l = l0 ∧ i = i0 ∧ p = p0 ∧ c = c0 ∧ xs = xs0 ∧ w = w0) ∧ (True)
def R_lastI : X_lastI → X_lastI → Prop := fun x y => match x, y with | (n0, l0, i0, k0, p0, c0, xs0, w0, r0), (n, l, i, k, p, c, xs, w, r) => (n = n0 ∧ l = l0 ∧ i = i0 ∧ p = p0 ∧ c = c0 ∧ xs = xs0 ∧ w = w0) ∧ (False)
def D_lastI : X_lastI → LEnds X_lastI := fun x => ⟨[(2, E2_lastI x)], R_lastI x⟩
noncomputable def S_lastI : Summ := summN sh_lastI sx_lastI nx_lastI Pre_lastI D_lastI
def Inv_lastI : X_lastI → X_lastI → Prop := fun x y => match x, y with | (n0, l0, i0, k0, p0, c0, xs0, w0, r0), (n, l, i, k, p, c, xs, w, r) => (n = n0 ∧ l = l0 ∧ i = i0 ∧ p = p0 ∧ c = c0 ∧ xs = xs0 ∧ w = w0) ∧ (0 ≤ k ∧ k ≤ i + 1)
def M_lastI : X_lastI → X_lastI → Nat := fun x y => match x, y with | (n0, l0, i0, k0, p0, c0, xs0, w0, r0), (n, l, i, k, p, c, xs, w, r) => (i + 1 - k).toNat
theorem body_lastI (Inv : X_lastI → Prop) (meas : X_lastI → Nat) (nn : Nat) (EE2 RR : X_lastI → Prop) (n : Int) (l : List (den (.int .i64))) (i : Int) (k : Int) (p : Int) (c : Int) (xs : List (den (.int .i64))) (w : List (den (.int .i64))) (r : Bool) : awp tab fs_rsize (acall tab fs_rsize specs_push fns 100 20) [] 100 (loopAt Try.f3 13) (bodyN sh_lastI sx_lastI nx_lastI Inv meas nn ⟨[(2, EE2)], RR⟩) (sh_lastI (n, l, i, k, p, c, xs, w, r)) =
  (ifB (selB (leB k i) (ltB k 5) false) (ifB (selB (selB (eqB (lenI xs) 0) true (ltB k 0)) true (leB c k)) (need True (ifB (selB (selB (ltB k n) true false) true (selB
    (leB n k) false false)) (eqI n n (eqD l l (eqL false false (eqI i i (eqI k k (eqD xs xs (eqI p p (eqI c c (eqD w w (RR (n, l, i, k, p, c, xs, w, false)))))))))))
    (eqI n n (eqD l l (eqI i i (eqI (addW IntKind.i64 k 1) (addW IntKind.i64 k 1) (eqD xs xs (eqI p p (eqI c c (eqD w w (Inv (n, l, i, addW IntKind.i64 k 1, p, c, xs,
    w, false) ∧ meas (n, l, i, addW IntKind.i64 k 1, p, c, xs, w, false) < nn))))))))))) (need (nzI (lenI xs)) (need (inI (remI (addW IntKind.i64 (subW IntKind.i64 (subW
    IntKind.i64 p 1) k) (mulW IntKind.i64 2 (lenI xs))) (lenI xs)) (lenI xs)) (need (inI (remI (addW IntKind.i64 (subW IntKind.i64 (subW IntKind.i64 p 1) k) (mulW IntKind.i64
    2 (lenI xs))) (lenI xs)) (lenI xs)) (need (impB (ltB k n) (inI (subW IntKind.i64 i k) (lenI l))) (ifB (selB (selB (ltB k n) (notB (eqB (nth (Ty.int IntKind.i64)
    xs (remI (addW IntKind.i64 (subW IntKind.i64 (subW IntKind.i64 p 1) k) (mulW IntKind.i64 2 (lenI xs))) (lenI xs))) (nth (Ty.int IntKind.i64) l (subW IntKind.i64
    i k)))) false) true (selB (leB n k) true false)) (eqI n n (eqD l l (eqL false false (eqI i i (eqI k k (eqD xs xs (eqI p p (eqI c c (eqD w w (RR (n, l, i, k, p, c,
    xs, w, false))))))))))) (eqI n n (eqD l l (eqI i i (eqI (addW IntKind.i64 k 1) (addW IntKind.i64 k 1) (eqD xs xs (eqI p p (eqI c c (eqD w w (Inv (n, l, i, addW IntKind.i64
    k 1, p, c, xs, w, false) ∧ meas (n, l, i, addW IntKind.i64 k 1, p, c, xs, w, false) < nn))))))))))))))) (eqI n n (eqD l l (eqI i i (eqI k k (eqD xs xs (eqI p p (eqI
    c c (eqD w w (EE2 (n, l, i, k, p, c, xs, w, false))))))))))) := by kernel_rfl
theorem body_lastI_ok : ∀ x y, Pre_lastI x → Inv_lastI x y → wfS (sh_lastI y) → Hd (awp tab fs_rsize (acall tab fs_rsize specs_push fns 100 20) [] 100 (loopAt Try.f3 13) (bodyN sh_lastI sx_lastI nx_lastI (Inv_lastI x) (M_lastI x) (M_lastI x y) (D_lastI x)) (sh_lastI y)) := by
  rintro ⟨n0, l0, i0, k0, p0, c0, xs0, w0, r0⟩ ⟨n, l, i, k, p, c, xs, w, r⟩ hp hI hw
  obtain ⟨⟨rfl, rfl, rfl, rfl, rfl, rfl, rfl⟩, hI⟩ := hI
  have hw_n := wfL_int hw 0 rfl
  have hw_l := wfL_view hw 1 rfl
  have hw_i := wfL_int hw 7 rfl
  have hw_k := wfL_int hw 8 rfl
  have hw_p := wfC_int hw 1 1 rfl
  have hw_c := wfC_int hw 1 2 rfl
  have hw_xs := wfR_row hw 0 rfl
  have hw_w := wfR_row hw 2 rfl
  have hp : k0 = 0 ∧ lastOK xs p c l (i + 1) n ∧ (0 ≤ i ∧ i < lenI l) ∧ lenI l ≤ 300 := hp
  unfold D_lastI
  rw [body_lastI]
  refine ⟨?_⟩
  have hInv : ∀ (k : Int) (r : Bool), (0 ≤ k ∧ k ≤ i + 1) → Inv_lastI (n, l, i, k0, p, c, xs, w, r0) (n, l, i, k, p, c, xs, w, r) := fun _ _ h => ⟨⟨rfl, rfl, rfl, rfl, rfl, rfl, rfl⟩, h⟩
  generalize hIe : Inv_lastI (n, l, i, k0, p, c, xs, w, r0) = Inv at hInv ⊢
  have hMe : ∀ (k : Int) (r : Bool), M_lastI (n, l, i, k0, p, c, xs, w, r0) (n, l, i, k, p, c, xs, w, r) = (i + 1 - k).toNat := fun _ _ => rfl
  generalize M_lastI (n, l, i, k0, p, c, xs, w, r0) = Me at hMe ⊢
  have hE2 : ∀ (k : Int) (r : Bool), (True) → E2_lastI (n, l, i, k0, p, c, xs, w, r0) (n, l, i, k, p, c, xs, w, r) := fun _ _ h => ⟨⟨rfl, rfl, rfl, rfl, rfl, rfl, rfl⟩, h⟩
  generalize E2_lastI (n, l, i, k0, p, c, xs, w, r0) = EE2 at hE2 ⊢
  have hR : ∀ (k : Int) (r : Bool), (False) → R_lastI (n, l, i, k0, p, c, xs, w, r0) (n, l, i, k, p, c, xs, w, r) := fun _ _ h => ⟨⟨rfl, rfl, rfl, rfl, rfl, rfl, rfl⟩, h⟩
  generalize R_lastI (n, l, i, k0, p, c, xs, w, r0) = RR at hR ⊢
  obtain ⟨p1, p2, p3, p4⟩ := hp
  have hO := p2
  unfold lastOK at hO
  obtain ⟨⟨o1, o2, o3⟩, o4, o5, o6⟩ := hO
  have ei : addW .i64 k 1 = k + 1 := addW64 (by omega) (by omega)
  by_cases hk : k ≤ i ∧ k < 5
  · rw [leB_t.2 hk.1, ltB_t.2 hk.2]
    have hp0 : 0 ≤ p := by rw [o4]; exact Int.emod_nonneg _ (by omega)
    have hp1 : p < n := by rw [o4]; exact Int.emod_lt_of_pos _ (by omega)
    have e1 : subW .i64 p 1 = p - 1 := subW64 (by omega) (by omega)
    have e2 : subW .i64 (p - 1) k = p - 1 - k := subW64 (by omega) (by omega)
    have e3 : mulW .i64 2 n = 2 * n := mulW64 (by omega) (by omega)
    have e4 : addW .i64 (p - 1 - k) (2 * n) = p - 1 - k + 2 * n := addW64 (by omega) (by omega)
    have e5 : subW .i64 i k = i - k := subW64 (by omega) (by omega)
    have h0 : ¬ n = 0 := by omega
    simp only [o1, e1, e2, e3, e4, e5, ei]
    by_cases hn : k < n
    · have hc : ¬ c ≤ k := by omega
      have er : remI (p - 1 - k + 2 * n) n = (i - k) % n := by
        unfold remI
        rw [Int.tmod_eq_emod_of_nonneg (by omega), o4]
        have : (i + 1) % n - 1 - k + 2 * n = (i - k) + n * (2 - (i + 1) / n) := by
          have := Int.emod_add_mul_ediv (i + 1) n
          rw [Int.mul_sub]
          omega
        rw [this, Int.add_mul_emod_self_left]
      have hx : nth (.int .i64) xs ((i - k) % n) = nth (.int .i64) l (i - k) := o6 (i - k) (by omega) (by omega) (by omega)
      have hm0 : 0 ≤ (i - k) % n := Int.emod_nonneg _ (by omega)
      have hm1 : (i - k) % n < n := Int.emod_lt_of_pos _ (by omega)
      simp only [er, hx, eqB_t.2 rfl]
      rw [ltB_t.2 hn]
      simp only [need_def, appL_def, ifB_def, impB_def, selB_f, selB_t, selI_def, selX_def, notB_def, andB_def, orB_def, beqB_def, ltB_def, leB_def, eqB_def, seqB_def, eqI_def, eqL_def, eqS_def, eqD_def, eqT_def, imp_def, inI_def, nzI_def, geZ_def, ret_bool, ret_int, Bool.and_eq_true, Bool.or_eq_true, Bool.not_eq_true', Bool.not_eq_false', decide_eq_true_eq, decide_eq_false_iff_not, Bool.and_eq_false_iff, Bool.or_eq_false_iff, Int.not_lt, Int.not_le, true_and, and_true, implies_true, Bool.false_eq_true, Bool.true_eq_false, false_implies, forall_const, reduceCtorEq, if_true, if_false, true_implies, false_and, and_false, false_or, or_false, true_or, or_true, hMe, hc, h0]
      repeat' (first | with_reducible rfl | assumption | omega | (refine hInv _ _ ?_) | refine ⟨?_, ?_⟩ | (rintro ⟨_, hx⟩; exact (hx trivial).elim) | intro _)
    · have hc : c ≤ k := by omega
      simp only [need_def, appL_def, ifB_def, impB_def, selB_f, selB_t, selI_def, selX_def, notB_def, andB_def, orB_def, beqB_def, ltB_def, leB_def, eqB_def, seqB_def, eqI_def, eqL_def, eqS_def, eqD_def, eqT_def, imp_def, inI_def, nzI_def, geZ_def, ret_bool, ret_int, Bool.and_eq_true, Bool.or_eq_true, Bool.not_eq_true', Bool.not_eq_false', decide_eq_true_eq, decide_eq_false_iff_not, Bool.and_eq_false_iff, Bool.or_eq_false_iff, Int.not_lt, Int.not_le, true_and, and_true, implies_true, Bool.false_eq_true, Bool.true_eq_false, false_implies, forall_const, reduceCtorEq, if_true, if_false, true_implies, false_and, and_false, false_or, or_false, true_or, or_true, hMe, hc, hn, h0]
      repeat' (first | with_reducible rfl | assumption | omega | (refine hInv _ _ ?_) | refine ⟨?_, ?_⟩ | (rintro ⟨_, hx⟩; exact (hx trivial).elim) | intro _)
  · have : selB (leB k i) (ltB k 5) false = false := by
      by_cases h1 : k ≤ i
      · rw [leB_t.2 h1, ltB_f.2 (by omega)]; rfl
      · rw [leB_f.2 (by omega)]; rfl
    rw [this]
    simp only [need_def, appL_def, ifB_def, impB_def, selB_f, selB_t, selI_def, selX_def, notB_def, andB_def, orB_def, beqB_def, ltB_def, leB_def, eqB_def, seqB_def, eqI_def, eqL_def, eqS_def, eqD_def, eqT_def, imp_def, inI_def, nzI_def, geZ_def, ret_bool, ret_int, Bool.and_eq_true, Bool.or_eq_true, Bool.not_eq_true', Bool.not_eq_false', decide_eq_true_eq, decide_eq_false_iff_not, Bool.and_eq_false_iff, Bool.or_eq_false_iff, Int.not_lt, Int.not_le, true_and, and_true, implies_true, Bool.false_eq_true, Bool.true_eq_false, false_implies, forall_const, reduceCtorEq, if_true, if_false, true_implies, false_and, and_false, false_or, or_false, true_or, or_true]
    exact hE2 _ _ trivial
theorem summ_lastI : SummOK Try.prog (loopAt Try.f3 13) S_lastI :=
  summN_ok (L := []) (fuel := 100) tabOK fsOK_rsize (mkCall fsOK_rsize specsOK_push fnsOK) (fun C => mkDraw fsOK_rsize (mkCall fsOK_rsize specsOK_push fnsOK) C) loopsOK_nil Inv_lastI M_lastI
    (fun x hp hw => by
      obtain ⟨n, l, i, k, p, c, xs, w, r⟩ := x
      have hp : k = 0 ∧ lastOK xs p c l (i + 1) n ∧ (0 ≤ i ∧ i < lenI l) ∧ lenI l ≤ 300 := hp
      have hw_n := wfL_int hw 0 rfl
      have hw_l := wfL_view hw 1 rfl
      have hw_i := wfL_int hw 7 rfl
      have hw_k := wfL_int hw 8 rfl
      have hw_p := wfC_int hw 1 1 rfl
      have hw_c := wfC_int hw 1 2 rfl
      have hw_xs := wfR_row hw 0 rfl
      have hw_w := wfR_row hw 2 rfl
      obtain ⟨rfl, h1, h2⟩ := hp
      exact ⟨⟨rfl, rfl, rfl, rfl, rfl, rfl, rfl⟩, by omega, by omega⟩)
    (body_lastI_ok)
abbrev X_last := Int × List (den (.int .i64)) × Int × Int × Int × List (den (.int .i64)) × Bool
def sh_last : X_last → St := fun x => match x with | (n, l, i, p, c, xs, r) => ⟨setL (rep .bad 106) [(0, .int .i64 n), (1, .view [] (.int .i64) l), (7, .int .i64 i), (5, .ptr 1 0)], [.row 3 (.int .i64) xs [], .var [.own 0, .int .i64 p, .int .i64 c]], [0, 1, 2], [0, 1, 2]⟩
def shr_last : X_last → St := fun x => match x with | (n, l, i, p, c, xs, r) => ⟨setL (rep .bad 106) [(0, .int .i64 n), (1, .view [] (.int .i64) l), (7, .int .i64 i), (4, .bool r), (5, .ptr 1 0)], [.row 3 (.int .i64) xs [], .var [.own 0, .int .i64 p, .int .i64 c]], [0, 1, 2], [0, 1, 2]⟩
def sx_last : AExit → X_last → St := fun e => match e with | .ret => shr_last | _ => sh_last
def nx_last (σ : St) : X_last := (gI σ 0, gV (.int .i64) σ 1, gI σ 7, cI σ 1 1, cI σ 1 2, rV (.int .i64) σ 0, gB σ 4)
def Pre_last : X_last → Prop := fun x => match x with | (n, l, i, p, c, xs, r) => i = 0 ∧ lastOK xs p c l 0 n ∧ lenI l ≤ 300
def E0_last : X_last → X_last → Prop := fun x y => match x, y with | (n0, l0, i0, p0, c0, xs0, r0), (n, l, i, p, c, xs, r) => (n = n0 ∧ l = l0) ∧ (lastOK xs p c l (lenI l) n)
def R_last : X_last → X_last → Prop := fun x y => match x, y with | (n0, l0, i0, p0, c0, xs0, r0), (n, l, i, p, c, xs, r) => (n = n0 ∧ l = l0) ∧ (False)
def D_last : X_last → LEnds X_last := fun x => ⟨[(0, E0_last x)], R_last x⟩
noncomputable def S_last : Summ := summN sh_last sx_last nx_last Pre_last D_last
def Inv_last : X_last → X_last → Prop := fun x y => match x, y with | (n0, l0, i0, p0, c0, xs0, r0), (n, l, i, p, c, xs, r) => (n = n0 ∧ l = l0) ∧ ((0 ≤ i ∧ i ≤ lenI l) ∧ lastOK xs p c l i n)
def M_last : X_last → X_last → Nat := fun x y => match x, y with | (n0, l0, i0, p0, c0, xs0, r0), (n, l, i, p, c, xs, r) => (lenI l - i).toNat
theorem body_last (Inv : X_last → Prop) (meas : X_last → Nat) (nn : Nat) (EE0 RR : X_last → Prop) (n : Int) (l : List (den (.int .i64))) (i : Int) (p : Int) (c : Int) (xs : List (den (.int .i64))) (r : Bool) : awp tab fs_rsize (acall tab fs_rsize specs_push fns 100 20) [(13, S_lastI)] 100 (loopAt Try.f3 9) (bodyN sh_last sx_last nx_last Inv meas nn ⟨[(0, EE0)], RR⟩) (sh_last (n, l, i, p, c, xs, r)) =
  (ifB (ltB i (lenI l)) (need (inI i (lenI l)) (need (ringOK xs p c) (eqI n n (eqD l l (eqI i i (eqI 0 0 (eqD (pushX xs p c (nth (Ty.int IntKind.i64) l i :: @List.nil
    (den (Ty.int IntKind.i64)))) (pushX xs p c (nth (Ty.int IntKind.i64) l i :: @List.nil (den (Ty.int IntKind.i64)))) (eqI (pushP xs p c (nth (Ty.int IntKind.i64) l
    i :: @List.nil (den (Ty.int IntKind.i64)))) (pushP xs p c (nth (Ty.int IntKind.i64) l i :: @List.nil (den (Ty.int IntKind.i64)))) (eqI (pushN xs p c (nth (Ty.int
    IntKind.i64) l i :: @List.nil (den (Ty.int IntKind.i64)))) (pushN xs p c (nth (Ty.int IntKind.i64) l i :: @List.nil (den (Ty.int IntKind.i64)))) (eqD (nth (Ty.int
    IntKind.i64) l i :: @List.nil (den (Ty.int IntKind.i64))) (nth (Ty.int IntKind.i64) l i :: @List.nil (den (Ty.int IntKind.i64))) (((0 : Int) = 0 ∧ lastOK (pushX
    xs p c (nth (Ty.int IntKind.i64) l i :: @List.nil (den (Ty.int IntKind.i64)))) (pushP xs p c (nth (Ty.int IntKind.i64) l i :: @List.nil (den (Ty.int IntKind.i64))))
    (pushN xs p c (nth (Ty.int IntKind.i64) l i :: @List.nil (den (Ty.int IntKind.i64)))) l (i + 1) n ∧ (0 ≤ i ∧ i < lenI l) ∧ lenI l ≤ 300) ∧ ((∀ (y : X_lastI), (y.1
    = n ∧ y.2.1 = l ∧ y.2.2.1 = i ∧ y.2.2.2.2.1 = pushP xs p c (nth (Ty.int IntKind.i64) l i :: @List.nil (den (Ty.int IntKind.i64))) ∧ y.2.2.2.2.2.1 = pushN xs p c
    (nth (Ty.int IntKind.i64) l i :: @List.nil (den (Ty.int IntKind.i64))) ∧ y.2.2.2.2.2.2.1 = pushX xs p c (nth (Ty.int IntKind.i64) l i :: @List.nil (den (Ty.int IntKind.i64)))
    ∧ y.2.2.2.2.2.2.2.1 = nth (Ty.int IntKind.i64) l i :: @List.nil (den (Ty.int IntKind.i64))) ∧ True → eqI y.1 y.1 (eqD y.2.1 y.2.1 (eqI (addW IntKind.i64 y.2.2.1
    1) (addW IntKind.i64 y.2.2.1 1) (eqD y.2.2.2.2.2.2.1 y.2.2.2.2.2.2.1 (eqI y.2.2.2.2.1 y.2.2.2.2.1 (eqI y.2.2.2.2.2.1 y.2.2.2.2.2.1 (Inv (y.1, y.2.1, addW IntKind.i64
    y.2.2.1 1, y.2.2.2.2.1, y.2.2.2.2.2.1, y.2.2.2.2.2.2.1, false) ∧ meas (y.1, y.2.1, addW IntKind.i64 y.2.2.1 1, y.2.2.2.2.1, y.2.2.2.2.2.1, y.2.2.2.2.2.2.1, false)
    < nn))))))) ∧ True) ∧ ∀ (y : X_lastI), (y.1 = n ∧ y.2.1 = l ∧ y.2.2.1 = i ∧ y.2.2.2.2.1 = pushP xs p c (nth (Ty.int IntKind.i64) l i :: @List.nil (den (Ty.int IntKind.i64)))
    ∧ y.2.2.2.2.2.1 = pushN xs p c (nth (Ty.int IntKind.i64) l i :: @List.nil (den (Ty.int IntKind.i64))) ∧ y.2.2.2.2.2.2.1 = pushX xs p c (nth (Ty.int IntKind.i64)
    l i :: @List.nil (den (Ty.int IntKind.i64))) ∧ y.2.2.2.2.2.2.2.1 = nth (Ty.int IntKind.i64) l i :: @List.nil (den (Ty.int IntKind.i64))) ∧ False → eqI y.1 y.1 (eqD
    y.2.1 y.2.1 (eqL y.2.2.2.2.2.2.2.2 y.2.2.2.2.2.2.2.2 (eqI y.2.2.1 y.2.2.1 (eqD y.2.2.2.2.2.2.1 y.2.2.2.2.2.2.1 (eqI y.2.2.2.2.1 y.2.2.2.2.1 (eqI y.2.2.2.2.2.1 y.2.2.2.2.2.1
    (RR (y.1, y.2.1, y.2.2.1, y.2.2.2.2.1, y.2.2.2.2.2.1, y.2.2.2.2.2.2.1, y.2.2.2.2.2.2.2.2))))))))))))))))))) (eqI n n (eqD l l (eqI i i (eqD xs xs (eqI p p (eqI c
    c (EE0 (n, l, i, p, c, xs, false))))))))) := by kernel_rfl
theorem body_last_ok : ∀ x y, Pre_last x → Inv_last x y → wfS (sh_last y) → Hd (awp tab fs_rsize (acall tab fs_rsize specs_push fns 100 20) [(13, S_lastI)] 100 (loopAt Try.f3 9) (bodyN sh_last sx_last nx_last (Inv_last x) (M_last x) (M_last x y) (D_last x)) (sh_last y)) := by
  rintro ⟨n0, l0, i0, p0, c0, xs0, r0⟩ ⟨n, l, i, p, c, xs, r⟩ hp hI hw
  obtain ⟨⟨rfl, rfl⟩, hI⟩ := hI
  have hw_n := wfL_int hw 0 rfl
  have hw_l := wfL_view hw 1 rfl
  have hw_i := wfL_int hw 7 rfl
  have hw_p := wfC_int hw 1 1 rfl
  have hw_c := wfC_int hw 1 2 rfl
  have hw_xs := wfR_row hw 0 rfl
  have hp : i0 = 0 ∧ lastOK xs0 p0 c0 l 0 n ∧ lenI l ≤ 300 := hp
  unfold D_last
  rw [body_last]
  refine ⟨?_⟩
  have hInv : ∀ (i : Int) (p : Int) (c : Int) (xs : List (den (.int .i64))) (r : Bool), ((0 ≤ i ∧ i ≤ lenI l) ∧ lastOK xs p c l i n) → Inv_last (n, l, i0, p0, c0, xs0, r0) (n, l, i, p, c, xs, r) := fun _ _ _ _ _ h => ⟨⟨rfl, rfl⟩, h⟩
  generalize hIe : Inv_last (n, l, i0, p0, c0, xs0, r0) = Inv at hInv ⊢
  have hMe : ∀ (i : Int) (p : Int) (c : Int) (xs : List (den (.int .i64))) (r : Bool), M_last (n, l, i0, p0, c0, xs0, r0) (n, l, i, p, c, xs, r) = (lenI l - i).toNat := fun _ _ _ _ _ => rfl
  generalize M_last (n, l, i0, p0, c0, xs0, r0) = Me at hMe ⊢
  have hE0 : ∀ (i : Int) (p : Int) (c : Int) (xs : List (den (.int .i64))) (r : Bool), (lastOK xs p c l (lenI l) n) → E0_last (n, l, i0, p0, c0, xs0, r0) (n, l, i, p, c, xs, r) := fun _ _ _ _ _ h => ⟨⟨rfl, rfl⟩, h⟩
  generalize E0_last (n, l, i0, p0, c0, xs0, r0) = EE0 at hE0 ⊢
  have hR : ∀ (i : Int) (p : Int) (c : Int) (xs : List (den (.int .i64))) (r : Bool), (False) → R_last (n, l, i0, p0, c0, xs0, r0) (n, l, i, p, c, xs, r) := fun _ _ _ _ _ h => ⟨⟨rfl, rfl⟩, h⟩
  generalize R_last (n, l, i0, p0, c0, xs0, r0) = RR at hR ⊢
  obtain ⟨hi, hO⟩ := hI
  obtain ⟨p1, p2, p3⟩ := hp
  have hO' := hO
  unfold lastOK at hO'
  obtain ⟨⟨o1, o2, o3⟩, o4, o5, o6⟩ := hO'
  by_cases hlt : i < lenI l
  · have ei : addW .i64 i 1 = i + 1 := addW64 (by omega) (by omega)
    have hp0 : 0 ≤ p := by rw [o4]; exact Int.emod_nonneg _ (by omega)
    have hp1 : p < n := by rw [o4]; exact Int.emod_lt_of_pos _ (by omega)
    have hR0 : ringOK xs p c := by unfold ringOK; omega
    have hs := last_step hi.1 hO
    rw [ltB_t.2 hlt]
    simp only [pushX_one, pushP_one, pushN_one, ei]
    have hs' : lastOK (pushX xs p c (nth (.int .i64) l i :: @List.nil (den (.int .i64)))) (pushP xs p c (nth (.int .i64) l i :: @List.nil (den (.int .i64)))) (pushN xs p c (nth (.int .i64) l i :: @List.nil (den (.int .i64)))) l (i + 1) n := by
      rw [pushX_one, pushP_one, pushN_one]; exact hs
    simp only [need_def, appL_def, ifB_def, impB_def, selB_f, selB_t, selI_def, selX_def, notB_def, andB_def, orB_def, beqB_def, ltB_def, leB_def, eqB_def, seqB_def, eqI_def, eqL_def, eqS_def, eqD_def, eqT_def, imp_def, inI_def, nzI_def, geZ_def, ret_bool, ret_int, Bool.and_eq_true, Bool.or_eq_true, Bool.not_eq_true', Bool.not_eq_false', decide_eq_true_eq, decide_eq_false_iff_not, Bool.and_eq_false_iff, Bool.or_eq_false_iff, Int.not_lt, Int.not_le, true_and, and_true, implies_true, Bool.false_eq_true, Bool.true_eq_false, false_implies, forall_const, reduceCtorEq, if_true, if_false, true_implies, false_and, and_false, false_or, or_false, true_or, or_true, hMe]
    repeat' (first | with_reducible rfl | assumption | omega | trivial | (rintro ⟨n', l', i', k', p', c', xs', w', r'⟩ hk; dsimp only at hk ⊢; obtain ⟨rfl, rfl, rfl, rfl, rfl, rfl, rfl⟩ := hk; simp only [ei, hMe]; exact ⟨hInv _ _ _ _ _ ⟨by omega, hs'⟩, by omega⟩) | refine ⟨?_, ?_⟩ | intro _)
  · rw [ltB_f.2 (Int.not_lt.1 hlt)]
    simp only [need_def, appL_def, ifB_def, impB_def, selB_f, selB_t, selI_def, selX_def, notB_def, andB_def, orB_def, beqB_def, ltB_def, leB_def, eqB_def, seqB_def, eqI_def, eqL_def, eqS_def, eqD_def, eqT_def, imp_def, inI_def, nzI_def, geZ_def, ret_bool, ret_int, Bool.and_eq_true, Bool.or_eq_true, Bool.not_eq_true', Bool.not_eq_false', decide_eq_true_eq, decide_eq_false_iff_not, Bool.and_eq_false_iff, Bool.or_eq_false_iff, Int.not_lt, Int.not_le, true_and, and_true, implies_true, Bool.false_eq_true, Bool.true_eq_false, false_implies, forall_const, reduceCtorEq, if_true, if_false, true_implies, false_and, and_false, false_or, or_false, true_or, or_true]
    have : i = lenI l := by omega
    exact hE0 _ _ _ _ _ (this ▸ hO)
theorem lok_last : LoopsOK Try.prog [(13, S_lastI)] (loopAt Try.f3 9) := loopsOK_at (by kernel_rfl) fun k S h => by
  simp only [List.mem_cons, Prod.mk.injEq, List.not_mem_nil, or_false] at h
  obtain ⟨rfl, rfl⟩ := h
  exact (by kernel_rfl : findLoop (loopsOf (loopAt Try.f3 9)) 13 = loopAt Try.f3 13) ▸ summ_lastI
theorem summ_last : SummOK Try.prog (loopAt Try.f3 9) S_last :=
  summN_ok (L := [(13, S_lastI)]) (fuel := 100) tabOK fsOK_rsize (mkCall fsOK_rsize specsOK_push fnsOK) (fun C => mkDraw fsOK_rsize (mkCall fsOK_rsize specsOK_push fnsOK) C) lok_last Inv_last M_last
    (fun x hp hw => by
      obtain ⟨n, l, i, p, c, xs, r⟩ := x
      have hp : i = 0 ∧ lastOK xs p c l 0 n ∧ lenI l ≤ 300 := hp
      have hw_n := wfL_int hw 0 rfl
      have hw_l := wfL_view hw 1 rfl
      have hw_i := wfL_int hw 7 rfl
      have hw_p := wfC_int hw 1 1 rfl
      have hw_c := wfC_int hw 1 2 rfl
      have hw_xs := wfR_row hw 0 rfl
      obtain ⟨rfl, h1, h2⟩ := hp
      exact ⟨⟨rfl, rfl⟩, ⟨by omega, lenI_nn _⟩, h1⟩)
    (body_last_ok)
noncomputable def fns_LRingLast : Fns := (3, Try.f3, [(9, S_last)]) :: fns
theorem fn_LRingLast : FnOK Try.prog 3 Try.f3 [(9, S_last)] := fnOK_loops Try.func3 (fun vs w => Try.call3 vs w) (by kernel_rfl) fun k S h => by
  simp only [List.mem_cons, Prod.mk.injEq, List.not_mem_nil, or_false] at h
  obtain ⟨rfl, rfl⟩ := h
  exact summ_last
theorem fns_LRingLastOK : FnsOK Try.prog fns_LRingLast := fnsOK_cons fn_LRingLast fnsOK
theorem RingLast_eq (n : Int) (l : List (den (.int .i64))) : acall tab fs_rsize specs_push fns_LRingLast 100 20 3 [.int .i64 n, .view [] (.int .i64) l] [] (fun o _ _ _ => o = .ret (.bool true)) =
  (ifB (selB (selB (ltB n 1) true (ltB 300 n)) true (ltB 300 (lenI l))) (AOut.ret (AV.bool true) = AOut.ret (AV.bool true)) (ifB (selB (ltB n 1) true (ltB 2000 n))
    (AOut.ret (AV.bool false) = AOut.ret (AV.bool true)) (eqI n n (need (geZ n) (need (fitA n) (eqI n n (eqD l l (eqI 0 0 (eqD (repI n (0 : Int)) (repI n (0 : Int))
    (eqI 0 0 (eqI 0 0 (((0 : Int) = 0 ∧ lastOK (repI n (0 : Int)) 0 0 l 0 n ∧ lenI l ≤ 300) ∧ ((∀ (y : X_last), (y.1 = n ∧ y.2.1 = l) ∧ lastOK y.2.2.2.2.2.1 y.2.2.2.1
    y.2.2.2.2.1 y.2.1 (lenI y.2.1) y.1 → need (ringOK y.2.2.2.2.2.1 y.2.2.2.1 y.2.2.2.2.1) (need (impB (eqB y.2.2.2.2.1 (selI (ltB (lenI y.2.1) y.1) (lenI y.2.1) y.1))
    (ringOK y.2.2.2.2.2.1 y.2.2.2.1 y.2.2.2.2.1)) (AOut.ret (AV.bool (selB (eqB y.2.2.2.2.1 (selI (ltB (lenI y.2.1) y.1) (lenI y.2.1) y.1)) (eqB (lenI y.2.2.2.2.2.1)
    y.1) false)) = AOut.ret (AV.bool true)))) ∧ True) ∧ ∀ (y : X_last), (y.1 = n ∧ y.2.1 = l) ∧ False → AOut.ret (AV.bool y.2.2.2.2.2.2) = AOut.ret (AV.bool true))))))))))))) := by kernel_rfl
theorem RingLast_call : CallOK Try.prog (acall tab fs_rsize specs_push fns_LRingLast 100 20) := mkCall fsOK_rsize specsOK_push fns_LRingLastOK
theorem RingLast_go (n : Int) (l : List (den (.int .i64))) : LawEv (acall tab fs_rsize specs_push fns_LRingLast 100 20) 3 [.int .i64 n, .view [] (.int .i64) l] := by
  refine ⟨?_⟩
  rw [RingLast_eq]
  rw [ifB_def]
  refine ⟨fun _ => rfl, fun hg => ?_⟩
  simp only [selB_t, ltB_def, Bool.or_eq_false_iff, decide_eq_false_iff_not, Int.not_lt] at hg
  obtain ⟨⟨g1, g2⟩, g3⟩ := hg
  have hr : lenI (repI n (0 : Int)) = n := by simp [lenI, repI]; omega
  have h0 : lastOK (repI n (0 : Int)) 0 0 l 0 n := by
    unfold lastOK
    refine ⟨⟨hr, g1, g2⟩, by simp, by omega, fun j h1 h2 => by omega⟩
  have g4 : ¬ n < 1 := by omega
  have g5 : ¬ 2000 < n := by omega
  have g6 : geZ n := by unfold geZ; omega
  have g7 : fitA n := by unfold fitA; omega
  simp only [need_def, appL_def, ifB_def, impB_def, selB_f, selB_t, selI_def, selX_def, notB_def, andB_def, orB_def, beqB_def, ltB_def, leB_def, eqB_def, seqB_def, eqI_def, eqL_def, eqS_def, eqD_def, eqT_def, imp_def, inI_def, nzI_def, geZ_def, ret_bool, ret_int, Bool.and_eq_true, Bool.or_eq_true, Bool.not_eq_true', Bool.not_eq_false', decide_eq_true_eq, decide_eq_false_iff_not, Bool.and_eq_false_iff, Bool.or_eq_false_iff, Int.not_lt, Int.not_le, true_and, and_true, implies_true, Bool.false_eq_true, Bool.true_eq_false, false_implies, forall_const, reduceCtorEq, if_true, if_false, true_implies, false_and, and_false, false_or, or_false, true_or, or_true, h0, g3, g4, g5, g6, g7]
  refine fun _ => ⟨by omega, ?_⟩
  rintro ⟨n', l', i, p, c, xs, r⟩ ⟨hk, hO⟩
  dsimp only at hk hO ⊢
  obtain ⟨rfl, rfl⟩ := hk
  have hO' := hO
  unfold lastOK at hO'
  obtain ⟨⟨o1, o2, o3⟩, o4, o5, o6⟩ := hO'
  have hp0 : 0 ≤ p := by rw [o4]; exact Int.emod_nonneg _ (by omega)
  have hp1 : p < n' := by rw [o4]; exact Int.emod_lt_of_pos _ (by omega)
  have hl := lenI_nn l'
  have hR0 : ringOK xs p c := by unfold ringOK; omega
  exact ⟨hR0, fun _ => hR0, by rw [o5]; split <;> omega, o1⟩
theorem RingLast_ev : ∀ xs : DT [(.int .i64), (.list (.int .i64))], wfs [(.int .i64), (.list (.int .i64))] xs → LawEv (acall tab fs_rsize specs_push fns_LRingLast 100 20) 3 (argsA tab #[3, 22].toList [(.int .i64), (.list (.int .i64))] xs) := by
  rintro ⟨n, l, ⟨⟩⟩ hw
  exact RingLast_go n l



theorem RingLast_own : ownKnob Try.prog.godebug = none := by kernel_rfl
theorem RingLast_kids : Kids Try.prog (· < Try.prog.types.size) := kids_rows (by kernel_rfl) (by kernel_rfl)
theorem RingLast_full : ∀ t e, t < Try.prog.types.size → Try.prog.underlying t = some (.slice e) → 0 < Try.prog.cellsOf e := slices_full_of _ (by kernel_rfl)

theorem RingLast_lifted (os : Os) (started : os.Started) (H : Type) (enc : TypeId × Value → H) :
    ReturnsInHanded {} Try.checked os 3 .any (Rows.ringLastSpec.pre6 enc Try.prog Try.f3 Rows.ringLastRow.domain false) (Rows.ringLastSpec.post enc Try.prog Try.f3 false true false false) := by
  refine returnsInHanded_of_change_shaped (C := Try.checked) RingLast_own started (by kernel_rfl) Try.func3
    (ChangeSpec.witness6 (enc := enc) (C := Try.checked) false ⟨#[], #[(Value.int IntKind.i64 0), (Value.slice none 0 0)], []⟩ 8 (by kernel_rfl) (by kernel_rfl) (by kernel_rfl) (by kernel_rfl)) ?_
  intro W base args ds gs before hval hW _ hwt _ _
  refine law_contract' (P := Try.prog) (fn := Try.f3) (s := Rows.ringLastSpec) (tb := 4) (Ts := [(.int .i64), (.list (.int .i64))]) (call := (acall tab fs_rsize specs_push fns_LRingLast 100 20)) (f := 3) tabOK RingLast_call RingLast_kids RingLast_full Try.params3 (by decide +kernel) rfl rfl Try.underlying4 ?_ (by kernel_rfl) RingLast_ev hval hW hwt
  intro ds hl
  match ds, hl with
  | [d0, d1], _ => rfl

theorem RingLast_holds : Rows.RingLastSaid :=
  OpenClaim.holds_of_wide 3 Try.f3 rfl rfl rfl rfl rfl rfl rfl ⟨rfl, rfl, rfl, rfl, rfl⟩ rfl rfl rfl rfl rfl (by kernel_rfl) Try.func3 (by kernel_rfl)
    (of_decide_eq_true (by kernel_rfl)) (by unfold Func.isWrapper; first | (rw [if_pos (by decide +kernel)]; kernel_rfl) | (rw [if_neg (by decide +kernel)]; exact ⟨rfl, rfl⟩))
    (fun os started H enc _ => RingLast_lifted os started H enc)

end Go.Proofs.Ytgifbceiaibejaa
