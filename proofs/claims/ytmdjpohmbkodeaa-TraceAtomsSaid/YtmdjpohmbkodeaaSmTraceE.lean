/- Parts' meanings: since, atoms, not, any. -/
import Derived.Test.YtmdjpohmbkodeaaSmTraceD
namespace Go.Proofs.Ytmdjpohmbkodeaa.Sx
open Go.RowKit
set_option maxRecDepth 100000
set_option maxHeartbeats 4000000
set_option linter.unusedVariables false
set_option linter.unusedSimpArgs false
theorem ago_yes {q : List Bool} {i far a : Int} (h : a ≤ far) : agoF q i far a = if nth .bool q (i - a) = true then true else agoF q i far (a + 1) := by
  unfold agoF
  obtain ⟨k, hk⟩ : ∃ k : Nat, far + 1 - a = (k : Int) + 1 := ⟨(far - a).toNat, by omega⟩
  rw [show (far + 1 - a).toNat = k + 1 by omega, show (far + 1 - (a + 1)).toNat = k by omega]
  simp only [agoG]
  rw [if_neg (by omega)]
theorem ago_no {q : List Bool} {i far a : Int} (h : far < a) : agoF q i far a = false := by
  unfold agoF
  rw [show (far + 1 - a).toNat = 0 by omega]
  rfl
theorem held_bound {p : List Bool} : ∀ k : Nat, 0 ≤ heldG p k ∧ heldG p k ≤ (k : Int) + 1
  | 0 => by simp only [heldG]; split <;> omega
  | k + 1 => by
    have := held_bound (p := p) k
    simp only [heldG]; split <;> omega
theorem held_step {p : List Bool} {i : Int} (h : 0 ≤ i) : heldF p i = if nth .bool p i = true then heldF p (i - 1) + 1 else 0 := by
  unfold heldF
  rw [if_neg (by omega)]
  by_cases h0 : i = 0
  · subst h0
    rw [if_pos (show (0 : Int) - 1 < 0 by omega)]
    rfl
  · rw [if_neg (show ¬ i - 1 < 0 by omega)]
    obtain ⟨k, hk⟩ : ∃ k : Nat, i = (k : Int) + 1 := ⟨(i - 1).toNat, by omega⟩
    subst hk
    rw [show ((k : Int) + 1).toNat = k + 1 by omega, show ((k : Int) + 1 - 1).toNat = k by omega]
    simp only [heldG]
    rw [show ((k + 1 : Nat) : Int) = (k : Int) + 1 by omega]
theorem heldF_bound {p : List Bool} {i : Int} (h : -1 ≤ i) : 0 ≤ heldF p i ∧ heldF p i ≤ i + 1 := by
  unfold heldF
  split
  · omega
  · have := held_bound (p := p) i.toNat; omega
theorem far_val {to i h : Int} : selI (notB (eqB to (-1))) (selI (ltB to (selI (ltB h i) h i)) to (selI (ltB h i) h i)) (selI (ltB h i) h i) = farF to i h := by
  simp only [selI_def, notB_def, eqB_def, ltB_def, Bool.not_eq_true', decide_eq_false_iff_not, decide_eq_true_eq, farF]
  (repeat' split) <;> omega
abbrev X_sinceI := Int × Int × Int × List (den .str) × List (den (.list (.int .i64))) × Int × List (den .bool) × Int × Int × Int × List (den .bool) × List (den .bool) × Bool
def sh_sinceI : X_sinceI → St := fun x => match x with | (i, far, a, nm, rows, over, p, held, to, fr, q, xs, r) => ⟨setL (rep .bad 36) [(0, .int .i64 i), (8, .int .i64 far), (9, .int .i64 a), (5, .ptr 5 0)], [.var [.view [] .str nm, .view [] (.list (.int .i64)) rows, .int .i64 over], .var [.view [] .bool p], .var [.int .i64 held], .var [.int .i64 to], .var [.int .i64 fr], .var [.view [] .bool q], .row 4 .bool xs []], [], [2]⟩
def shr_sinceI : X_sinceI → St := fun x => match x with | (i, far, a, nm, rows, over, p, held, to, fr, q, xs, r) => ⟨setL (rep .bad 36) [(0, .int .i64 i), (8, .int .i64 far), (9, .int .i64 a), (7, .bool r), (5, .ptr 5 0)], [.var [.view [] .str nm, .view [] (.list (.int .i64)) rows, .int .i64 over], .var [.view [] .bool p], .var [.int .i64 held], .var [.int .i64 to], .var [.int .i64 fr], .var [.view [] .bool q], .row 4 .bool xs []], [], [2]⟩
def sx_sinceI : AExit → X_sinceI → St := fun e => match e with | .ret => shr_sinceI | _ => sh_sinceI
def nx_sinceI (σ : St) : X_sinceI := (gI σ 0, gI σ 8, gI σ 9, cV .str σ 0 0, cV (.list (.int .i64)) σ 0 1, cI σ 0 2, cV .bool σ 1 0, cI σ 2 0, cI σ 3 0, cI σ 4 0, cV .bool σ 5 0, rV .bool σ 6, gB σ 7)
def Pre_sinceI : X_sinceI → Prop := fun x => match x with | (i, far, a, nm, rows, over, p, held, to, fr, q, xs, r) => 0 ≤ a ∧ far ≤ i ∧ 0 ≤ i ∧ i < lenI q ∧ lenI q ≤ 1000000
def E0_sinceI : X_sinceI → X_sinceI → Prop := fun x y => match x, y with | (i0, far0, a0, nm0, rows0, over0, p0, held0, to0, fr0, q0, xs0, r0), (i, far, a, nm, rows, over, p, held, to, fr, q, xs, r) => (i = i0 ∧ far = far0 ∧ nm = nm0 ∧ rows = rows0 ∧ over = over0 ∧ p = p0 ∧ held = held0 ∧ to = to0 ∧ fr = fr0 ∧ q = q0 ∧ xs = xs0) ∧ (agoF q i far a0 = false)
def R_sinceI : X_sinceI → X_sinceI → Prop := fun x y => match x, y with | (i0, far0, a0, nm0, rows0, over0, p0, held0, to0, fr0, q0, xs0, r0), (i, far, a, nm, rows, over, p, held, to, fr, q, xs, r) => (i = i0 ∧ far = far0 ∧ nm = nm0 ∧ rows = rows0 ∧ over = over0 ∧ p = p0 ∧ held = held0 ∧ to = to0 ∧ fr = fr0 ∧ q = q0 ∧ xs = xs0) ∧ (r = true ∧ agoF q i far a0 = true)
def D_sinceI : X_sinceI → LEnds X_sinceI := fun x => ⟨[(0, E0_sinceI x)], R_sinceI x⟩
noncomputable def S_sinceI : Summ := summN sh_sinceI sx_sinceI nx_sinceI Pre_sinceI D_sinceI
def Inv_sinceI : X_sinceI → X_sinceI → Prop := fun x y => match x, y with | (i0, far0, a0, nm0, rows0, over0, p0, held0, to0, fr0, q0, xs0, r0), (i, far, a, nm, rows, over, p, held, to, fr, q, xs, r) => (i = i0 ∧ far = far0 ∧ nm = nm0 ∧ rows = rows0 ∧ over = over0 ∧ p = p0 ∧ held = held0 ∧ to = to0 ∧ fr = fr0 ∧ q = q0 ∧ xs = xs0) ∧ (0 ≤ a ∧ agoF q i far a = agoF q i far a0)
def M_sinceI : X_sinceI → X_sinceI → Nat := fun x y => match x, y with | (i0, far0, a0, nm0, rows0, over0, p0, held0, to0, fr0, q0, xs0, r0), (i, far, a, nm, rows, over, p, held, to, fr, q, xs, r) => (far + 1 - a).toNat
theorem body_sinceI (Inv : X_sinceI → Prop) (meas : X_sinceI → Nat) (nn : Nat) (EE0 RR : X_sinceI → Prop) (i : Int) (far : Int) (a : Int) (nm : List (den .str)) (rows : List (den (.list (.int .i64)))) (over : Int) (p : List (den .bool)) (held : Int) (to : Int) (fr : Int) (q : List (den .bool)) (xs : List (den .bool)) (r : Bool) : awp tab fs_fnAny (acall tab fs_fnAny specs_fillPrev fns 100 20) [] 100 (loopAt Try.f95 8) (bodyN sh_sinceI sx_sinceI nx_sinceI Inv meas nn ⟨[(0, EE0)], RR⟩) (sh_sinceI (i, far, a, nm, rows, over, p, held, to, fr, q, xs, r)) =
  (ifB (leB a far) (need (inI (subW IntKind.i64 i a) (lenI q)) (ifB (nth Ty.bool q (subW IntKind.i64 i a)) (eqI i i (eqL true true (eqI far far (eqI a a (eqD nm nm
    (eqD rows rows (eqI over over (eqD p p (eqI held held (eqI to to (eqI fr fr (eqD q q (eqD xs xs (RR (i, far, a, nm, rows, over, p, held, to, fr, q, xs, true)))))))))))))))
    (eqI i i (eqI far far (eqI (addW IntKind.i64 a 1) (addW IntKind.i64 a 1) (eqD nm nm (eqD rows rows (eqI over over (eqD p p (eqI held held (eqI to to (eqI fr fr (eqD
    q q (eqD xs xs (Inv (i, far, addW IntKind.i64 a 1, nm, rows, over, p, held, to, fr, q, xs, false) ∧ meas (i, far, addW IntKind.i64 a 1, nm, rows, over, p, held,
    to, fr, q, xs, false) < nn))))))))))))))) (eqI i i (eqI far far (eqI a a (eqD nm nm (eqD rows rows (eqI over over (eqD p p (eqI held held (eqI to to (eqI fr fr (eqD
    q q (eqD xs xs (EE0 (i, far, a, nm, rows, over, p, held, to, fr, q, xs, false))))))))))))))) := by kernel_rfl
theorem body_sinceI_ok : ∀ x y, Pre_sinceI x → Inv_sinceI x y → wfS (sh_sinceI y) → Hd (awp tab fs_fnAny (acall tab fs_fnAny specs_fillPrev fns 100 20) [] 100 (loopAt Try.f95 8) (bodyN sh_sinceI sx_sinceI nx_sinceI (Inv_sinceI x) (M_sinceI x) (M_sinceI x y) (D_sinceI x)) (sh_sinceI y)) := by
  rintro ⟨i0, far0, a0, nm0, rows0, over0, p0, held0, to0, fr0, q0, xs0, r0⟩ ⟨i, far, a, nm, rows, over, p, held, to, fr, q, xs, r⟩ hp hI hw
  obtain ⟨⟨rfl, rfl, rfl, rfl, rfl, rfl, rfl, rfl, rfl, rfl, rfl⟩, hI⟩ := hI
  have hw_i := wfL_int hw 0 rfl
  have hw_far := wfL_int hw 8 rfl
  have hw_a := wfL_int hw 9 rfl
  have hw_nm := wfC_view hw 0 0 rfl
  have hw_rows := wfC_view hw 0 1 rfl
  have hw_over := wfC_int hw 0 2 rfl
  have hw_p := wfC_view hw 1 0 rfl
  have hw_held := wfC_int hw 2 0 rfl
  have hw_to := wfC_int hw 3 0 rfl
  have hw_fr := wfC_int hw 4 0 rfl
  have hw_q := wfC_view hw 5 0 rfl
  have hw_xs := wfR_row hw 6 rfl
  have hp : 0 ≤ a0 ∧ far ≤ i ∧ 0 ≤ i ∧ i < lenI q ∧ lenI q ≤ 1000000 := hp
  unfold D_sinceI
  rw [body_sinceI]
  refine ⟨?_⟩
  have hInv : ∀ (a : Int) (r : Bool), (0 ≤ a ∧ agoF q i far a = agoF q i far a0) → Inv_sinceI (i, far, a0, nm, rows, over, p, held, to, fr, q, xs, r0) (i, far, a, nm, rows, over, p, held, to, fr, q, xs, r) := fun _ _ h => ⟨⟨rfl, rfl, rfl, rfl, rfl, rfl, rfl, rfl, rfl, rfl, rfl⟩, h⟩
  generalize hIe : Inv_sinceI (i, far, a0, nm, rows, over, p, held, to, fr, q, xs, r0) = Inv at hInv ⊢
  have hMe : ∀ (a : Int) (r : Bool), M_sinceI (i, far, a0, nm, rows, over, p, held, to, fr, q, xs, r0) (i, far, a, nm, rows, over, p, held, to, fr, q, xs, r) = (far + 1 - a).toNat := fun _ _ => rfl
  generalize M_sinceI (i, far, a0, nm, rows, over, p, held, to, fr, q, xs, r0) = Me at hMe ⊢
  have hE0 : ∀ (a : Int) (r : Bool), (agoF q i far a0 = false) → E0_sinceI (i, far, a0, nm, rows, over, p, held, to, fr, q, xs, r0) (i, far, a, nm, rows, over, p, held, to, fr, q, xs, r) := fun _ _ h => ⟨⟨rfl, rfl, rfl, rfl, rfl, rfl, rfl, rfl, rfl, rfl, rfl⟩, h⟩
  generalize E0_sinceI (i, far, a0, nm, rows, over, p, held, to, fr, q, xs, r0) = EE0 at hE0 ⊢
  have hR : ∀ (a : Int) (r : Bool), (r = true ∧ agoF q i far a0 = true) → R_sinceI (i, far, a0, nm, rows, over, p, held, to, fr, q, xs, r0) (i, far, a, nm, rows, over, p, held, to, fr, q, xs, r) := fun _ _ h => ⟨⟨rfl, rfl, rfl, rfl, rfl, rfl, rfl, rfl, rfl, rfl, rfl⟩, h⟩
  generalize R_sinceI (i, far, a0, nm, rows, over, p, held, to, fr, q, xs, r0) = RR at hR ⊢
  obtain ⟨ha, hI⟩ := hI
  obtain ⟨p1, p2, p3, p4, p5⟩ := hp
  by_cases hlt : a ≤ far
  · have e1 : addW .i64 a 1 = a + 1 := addW64 (by omega) (by omega)
    have e2 : subW .i64 i a = i - a := subW64 (by omega) (by omega)
    rw [ago_yes hlt] at hI
    rw [leB_t.2 hlt]
    simp only [e1, e2]
    cases hb : nth .bool q (i - a)
    · rw [hb] at hI
      simp only [Bool.false_eq_true, if_false] at hI
      simp only [simpsL, implies_true, forall_const, if_true, if_false, reduceCtorEq, hMe]
      repeat' (first | with_reducible rfl | assumption | omega | (exact hInv _ _ ⟨by omega, hI⟩) | refine ⟨?_, ?_⟩ | intro _)
    · rw [hb] at hI
      simp only [if_true] at hI
      simp only [simpsL, implies_true, forall_const, if_true, if_false, reduceCtorEq, hMe]
      repeat' (first | with_reducible rfl | assumption | omega | (exact hR _ _ ⟨rfl, hI.symm⟩) | refine ⟨?_, ?_⟩ | intro _)
  · rw [ago_no (by omega)] at hI
    rw [leB_f.2 (Int.not_le.1 hlt)]
    simp only [simpsL, implies_true, forall_const, if_true, if_false, reduceCtorEq]
    exact hE0 _ _ hI.symm
theorem summ_sinceI : SummOK Try.prog (loopAt Try.f95 8) S_sinceI :=
  summN_ok (L := []) (fuel := 100) tabOK fsOK_fnAny (mkCall fsOK_fnAny specsOK_fillPrev fnsOK) (fun C => mkDraw fsOK_fnAny (mkCall fsOK_fnAny specsOK_fillPrev fnsOK) C) loopsOK_nil Inv_sinceI M_sinceI
    (fun x hp hw => by
      obtain ⟨i, far, a, nm, rows, over, p, held, to, fr, q, xs, r⟩ := x
      have hp : 0 ≤ a ∧ far ≤ i ∧ 0 ≤ i ∧ i < lenI q ∧ lenI q ≤ 1000000 := hp
      have hw_i := wfL_int hw 0 rfl
      have hw_far := wfL_int hw 8 rfl
      have hw_a := wfL_int hw 9 rfl
      have hw_nm := wfC_view hw 0 0 rfl
      have hw_rows := wfC_view hw 0 1 rfl
      have hw_over := wfC_int hw 0 2 rfl
      have hw_p := wfC_view hw 1 0 rfl
      have hw_held := wfC_int hw 2 0 rfl
      have hw_to := wfC_int hw 3 0 rfl
      have hw_fr := wfC_int hw 4 0 rfl
      have hw_q := wfC_view hw 5 0 rfl
      have hw_xs := wfR_row hw 6 rfl
      exact ⟨⟨rfl, rfl, rfl, rfl, rfl, rfl, rfl, rfl, rfl, rfl, rfl⟩, hp.1, rfl⟩)
    (body_sinceI_ok)
abbrev X_fillSince := Int × Int × List (den .str) × List (den (.list (.int .i64))) × Int × List (den .bool) × Int × Int × Int × List (den .bool) × List (den .bool)
def sh_fillSince : X_fillSince → St := fun x => match x with | (n, i, nm, rows, over, p, held, to, fr, q, xs) => ⟨setL (rep .bad 26) [(14, .int .i64 n), (15, .int .i64 i), (1, .fn (.func 95) [] [.ptr 1 0, .ptr 2 0, .ptr 3 0, .ptr 4 0, .ptr 5 0]), (5, .own 6)], [.var [.view [] .str nm, .view [] (.list (.int .i64)) rows, .int .i64 over], .var [.view [] .bool p], .var [.int .i64 held], .var [.int .i64 to], .var [.int .i64 fr], .var [.view [] .bool q], .row 4 .bool xs []], [6], [2, 6]⟩
def sx_fillSince : AExit → X_fillSince → St := fun _ => sh_fillSince
def nx_fillSince (σ : St) : X_fillSince := (gI σ 14, gI σ 15, cV .str σ 0 0, cV (.list (.int .i64)) σ 0 1, cI σ 0 2, cV .bool σ 1 0, cI σ 2 0, cI σ 3 0, cI σ 4 0, cV .bool σ 5 0, rV .bool σ 6)
def Pre_fillSince : X_fillSince → Prop := fun x => match x with | (n, i, nm, rows, over, p, held, to, fr, q, xs) => i = 0 ∧ n = lenI rows ∧ lenI xs = lenI rows ∧ held = 0 ∧ lenI p = lenI rows ∧ lenI q = lenI rows ∧ 0 ≤ fr ∧ lenI rows ≤ 1000000
def E0_fillSince : X_fillSince → X_fillSince → Prop := fun x y => match x, y with | (n0, i0, nm0, rows0, over0, p0, held0, to0, fr0, q0, xs0), (n, i, nm, rows, over, p, held, to, fr, q, xs) => (n = n0 ∧ nm = nm0 ∧ rows = rows0 ∧ over = over0 ∧ p = p0 ∧ to = to0 ∧ fr = fr0 ∧ q = q0) ∧ (xs = sinceV (lenI rows) fr to p q)
def R_fillSince : X_fillSince → X_fillSince → Prop := fun x y => match x, y with | (n0, i0, nm0, rows0, over0, p0, held0, to0, fr0, q0, xs0), (n, i, nm, rows, over, p, held, to, fr, q, xs) => (n = n0 ∧ nm = nm0 ∧ rows = rows0 ∧ over = over0 ∧ p = p0 ∧ to = to0 ∧ fr = fr0 ∧ q = q0) ∧ (False)
def D_fillSince : X_fillSince → LEnds X_fillSince := fun x => ⟨[(0, E0_fillSince x)], R_fillSince x⟩
noncomputable def S_fillSince : Summ := summN sh_fillSince sx_fillSince nx_fillSince Pre_fillSince D_fillSince
def Inv_fillSince : X_fillSince → X_fillSince → Prop := fun x y => match x, y with | (n0, i0, nm0, rows0, over0, p0, held0, to0, fr0, q0, xs0), (n, i, nm, rows, over, p, held, to, fr, q, xs) => (n = n0 ∧ nm = nm0 ∧ rows = rows0 ∧ over = over0 ∧ p = p0 ∧ to = to0 ∧ fr = fr0 ∧ q = q0) ∧ ((0 ≤ i ∧ i ≤ n) ∧ lenI xs = lenI rows ∧ held = heldF p (i - 1) ∧ ∀ j, 0 ≤ j → j < i → nth .bool xs j = agoF q j (farF to j (heldF p j)) fr)
def M_fillSince : X_fillSince → X_fillSince → Nat := fun x y => match x, y with | (n0, i0, nm0, rows0, over0, p0, held0, to0, fr0, q0, xs0), (n, i, nm, rows, over, p, held, to, fr, q, xs) => (n - i).toNat
noncomputable def fns_fillSincew_95 : Fns := (95, Try.f95, [(8, S_sinceI)]) :: fns
theorem fn_fillSincew_95 : FnOK Try.prog 95 Try.f95 [(8, S_sinceI)] := fnOK_loops Try.func95 (fun vs w => Try.call95 vs w) (by kernel_rfl) fun k S h => by
  simp only [List.mem_cons, Prod.mk.injEq, List.not_mem_nil, or_false] at h
  obtain ⟨rfl, rfl⟩ := h
  exact summ_sinceI
theorem fns_fillSincew_95OK : FnsOK Try.prog fns_fillSincew_95 := fnsOK_cons fn_fillSincew_95 fnsOK
theorem body_fillSince (Inv : X_fillSince → Prop) (meas : X_fillSince → Nat) (nn : Nat) (EE0 RR : X_fillSince → Prop) (n : Int) (i : Int) (nm : List (den .str)) (rows : List (den (.list (.int .i64)))) (over : Int) (p : List (den .bool)) (held : Int) (to : Int) (fr : Int) (q : List (den .bool)) (xs : List (den .bool)) : awp tab fs_fnAny (acall tab fs_fnAny specs_fillPrev fns_fillSincew_95 100 20) [] 100 (loopAt Try.f79 3) (bodyN sh_fillSince sx_fillSince nx_fillSince Inv meas nn ⟨[(0, EE0)], RR⟩) (sh_fillSince (n, i, nm, rows, over, p, held, to, fr, q, xs)) =
  (ifB (ltB i n) (need (inI i (lenI p)) (ifB (nth Ty.bool p i) (eqI i i (eqI (selI (notB (eqB to (-1))) (selI (ltB to (selI (ltB (addW IntKind.i64 held 1) i) (addW
    IntKind.i64 held 1) i)) to (selI (ltB (addW IntKind.i64 held 1) i) (addW IntKind.i64 held 1) i)) (selI (ltB (addW IntKind.i64 held 1) i) (addW IntKind.i64 held 1)
    i)) (selI (notB (eqB to (-1))) (selI (ltB to (selI (ltB (addW IntKind.i64 held 1) i) (addW IntKind.i64 held 1) i)) to (selI (ltB (addW IntKind.i64 held 1) i) (addW
    IntKind.i64 held 1) i)) (selI (ltB (addW IntKind.i64 held 1) i) (addW IntKind.i64 held 1) i)) (eqI fr fr (eqD nm nm (eqD rows rows (eqI over over (eqD p p (eqI (addW
    IntKind.i64 held 1) (addW IntKind.i64 held 1) (eqI to to (eqI fr fr (eqD q q (eqD xs xs ((0 ≤ fr ∧ selI (notB (eqB to (-1))) (selI (ltB to (selI (ltB (addW IntKind.i64
    held 1) i) (addW IntKind.i64 held 1) i)) to (selI (ltB (addW IntKind.i64 held 1) i) (addW IntKind.i64 held 1) i)) (selI (ltB (addW IntKind.i64 held 1) i) (addW IntKind.i64
    held 1) i) ≤ i ∧ 0 ≤ i ∧ i < lenI q ∧ lenI q ≤ 1000000) ∧ ((∀ (y : X_sinceI), (y.1 = i ∧ y.2.1 = selI (notB (eqB to (-1))) (selI (ltB to (selI (ltB (addW IntKind.i64
    held 1) i) (addW IntKind.i64 held 1) i)) to (selI (ltB (addW IntKind.i64 held 1) i) (addW IntKind.i64 held 1) i)) (selI (ltB (addW IntKind.i64 held 1) i) (addW IntKind.i64
    held 1) i) ∧ y.2.2.2.1 = nm ∧ y.2.2.2.2.1 = rows ∧ y.2.2.2.2.2.1 = over ∧ y.2.2.2.2.2.2.1 = p ∧ y.2.2.2.2.2.2.2.1 = addW IntKind.i64 held 1 ∧ y.2.2.2.2.2.2.2.2.1
    = to ∧ y.2.2.2.2.2.2.2.2.2.1 = fr ∧ y.2.2.2.2.2.2.2.2.2.2.1 = q ∧ y.2.2.2.2.2.2.2.2.2.2.2.1 = xs) ∧ agoF y.2.2.2.2.2.2.2.2.2.2.1 y.1 y.2.1 fr = false → need (inI
    i (lenI y.2.2.2.2.2.2.2.2.2.2.2.1)) (need (inI i (lenI y.2.2.2.2.2.2.2.2.2.2.2.1)) (need (AV.fn (Fn.func 95) (@List.nil AV) (AV.ptr 1 0 :: AV.ptr 2 0 :: AV.ptr 3
    0 :: AV.ptr 4 0 :: AV.ptr 5 0 :: @List.nil AV) = AV.fn (Fn.func 95) (@List.nil AV) (AV.ptr 1 0 :: AV.ptr 2 0 :: AV.ptr 3 0 :: AV.ptr 4 0 :: AV.ptr 5 0 :: @List.nil
    AV)) (eqI n n (eqI (addW IntKind.i64 i 1) (addW IntKind.i64 i 1) (eqD y.2.2.2.1 y.2.2.2.1 (eqD y.2.2.2.2.1 y.2.2.2.2.1 (eqI y.2.2.2.2.2.1 y.2.2.2.2.2.1 (eqD y.2.2.2.2.2.2.1
    y.2.2.2.2.2.2.1 (eqI y.2.2.2.2.2.2.2.1 y.2.2.2.2.2.2.2.1 (eqI y.2.2.2.2.2.2.2.2.1 y.2.2.2.2.2.2.2.2.1 (eqI y.2.2.2.2.2.2.2.2.2.1 y.2.2.2.2.2.2.2.2.2.1 (eqD y.2.2.2.2.2.2.2.2.2.2.1
    y.2.2.2.2.2.2.2.2.2.2.1 (eqD (setI y.2.2.2.2.2.2.2.2.2.2.2.1 i false) (setI y.2.2.2.2.2.2.2.2.2.2.2.1 i false) (Inv (n, addW IntKind.i64 i 1, y.2.2.2.1, y.2.2.2.2.1,
    y.2.2.2.2.2.1, y.2.2.2.2.2.2.1, y.2.2.2.2.2.2.2.1, y.2.2.2.2.2.2.2.2.1, y.2.2.2.2.2.2.2.2.2.1, y.2.2.2.2.2.2.2.2.2.2.1, setI y.2.2.2.2.2.2.2.2.2.2.2.1 i false) ∧
    meas (n, addW IntKind.i64 i 1, y.2.2.2.1, y.2.2.2.2.1, y.2.2.2.2.2.1, y.2.2.2.2.2.2.1, y.2.2.2.2.2.2.2.1, y.2.2.2.2.2.2.2.2.1, y.2.2.2.2.2.2.2.2.2.1, y.2.2.2.2.2.2.2.2.2.2.1,
    setI y.2.2.2.2.2.2.2.2.2.2.2.1 i false) < nn))))))))))))))) ∧ True) ∧ ∀ (y : X_sinceI), (y.1 = i ∧ y.2.1 = selI (notB (eqB to (-1))) (selI (ltB to (selI (ltB (addW
    IntKind.i64 held 1) i) (addW IntKind.i64 held 1) i)) to (selI (ltB (addW IntKind.i64 held 1) i) (addW IntKind.i64 held 1) i)) (selI (ltB (addW IntKind.i64 held 1)
    i) (addW IntKind.i64 held 1) i) ∧ y.2.2.2.1 = nm ∧ y.2.2.2.2.1 = rows ∧ y.2.2.2.2.2.1 = over ∧ y.2.2.2.2.2.2.1 = p ∧ y.2.2.2.2.2.2.2.1 = addW IntKind.i64 held 1
    ∧ y.2.2.2.2.2.2.2.2.1 = to ∧ y.2.2.2.2.2.2.2.2.2.1 = fr ∧ y.2.2.2.2.2.2.2.2.2.2.1 = q ∧ y.2.2.2.2.2.2.2.2.2.2.2.1 = xs) ∧ y.2.2.2.2.2.2.2.2.2.2.2.2 = true ∧ agoF
    y.2.2.2.2.2.2.2.2.2.2.1 y.1 y.2.1 fr = true → need (inI i (lenI y.2.2.2.2.2.2.2.2.2.2.2.1)) (need (inI i (lenI y.2.2.2.2.2.2.2.2.2.2.2.1)) (need (AV.fn (Fn.func
    95) (@List.nil AV) (AV.ptr 1 0 :: AV.ptr 2 0 :: AV.ptr 3 0 :: AV.ptr 4 0 :: AV.ptr 5 0 :: @List.nil AV) = AV.fn (Fn.func 95) (@List.nil AV) (AV.ptr 1 0 :: AV.ptr
    2 0 :: AV.ptr 3 0 :: AV.ptr 4 0 :: AV.ptr 5 0 :: @List.nil AV)) (eqI n n (eqI (addW IntKind.i64 i 1) (addW IntKind.i64 i 1) (eqD y.2.2.2.1 y.2.2.2.1 (eqD y.2.2.2.2.1
    y.2.2.2.2.1 (eqI y.2.2.2.2.2.1 y.2.2.2.2.2.1 (eqD y.2.2.2.2.2.2.1 y.2.2.2.2.2.2.1 (eqI y.2.2.2.2.2.2.2.1 y.2.2.2.2.2.2.2.1 (eqI y.2.2.2.2.2.2.2.2.1 y.2.2.2.2.2.2.2.2.1
    (eqI y.2.2.2.2.2.2.2.2.2.1 y.2.2.2.2.2.2.2.2.2.1 (eqD y.2.2.2.2.2.2.2.2.2.2.1 y.2.2.2.2.2.2.2.2.2.2.1 (eqD (setI y.2.2.2.2.2.2.2.2.2.2.2.1 i y.2.2.2.2.2.2.2.2.2.2.2.2)
    (setI y.2.2.2.2.2.2.2.2.2.2.2.1 i y.2.2.2.2.2.2.2.2.2.2.2.2) (Inv (n, addW IntKind.i64 i 1, y.2.2.2.1, y.2.2.2.2.1, y.2.2.2.2.2.1, y.2.2.2.2.2.2.1, y.2.2.2.2.2.2.2.1,
    y.2.2.2.2.2.2.2.2.1, y.2.2.2.2.2.2.2.2.2.1, y.2.2.2.2.2.2.2.2.2.2.1, setI y.2.2.2.2.2.2.2.2.2.2.2.1 i y.2.2.2.2.2.2.2.2.2.2.2.2) ∧ meas (n, addW IntKind.i64 i 1,
    y.2.2.2.1, y.2.2.2.2.1, y.2.2.2.2.2.1, y.2.2.2.2.2.2.1, y.2.2.2.2.2.2.2.1, y.2.2.2.2.2.2.2.2.1, y.2.2.2.2.2.2.2.2.2.1, y.2.2.2.2.2.2.2.2.2.2.1, setI y.2.2.2.2.2.2.2.2.2.2.2.1
    i y.2.2.2.2.2.2.2.2.2.2.2.2) < nn))))))))))))))))))))))))))) (eqI i i (eqI (selI (notB (eqB to (-1))) (selI (ltB to (selI (ltB 0 i) 0 i)) to (selI (ltB 0 i) 0 i))
    (selI (ltB 0 i) 0 i)) (selI (notB (eqB to (-1))) (selI (ltB to (selI (ltB 0 i) 0 i)) to (selI (ltB 0 i) 0 i)) (selI (ltB 0 i) 0 i)) (eqI fr fr (eqD nm nm (eqD rows
    rows (eqI over over (eqD p p (eqI 0 0 (eqI to to (eqI fr fr (eqD q q (eqD xs xs ((0 ≤ fr ∧ selI (notB (eqB to (-1))) (selI (ltB to (selI (ltB 0 i) 0 i)) to (selI
    (ltB 0 i) 0 i)) (selI (ltB 0 i) 0 i) ≤ i ∧ 0 ≤ i ∧ i < lenI q ∧ lenI q ≤ 1000000) ∧ ((∀ (y : X_sinceI), (y.1 = i ∧ y.2.1 = selI (notB (eqB to (-1))) (selI (ltB to
    (selI (ltB 0 i) 0 i)) to (selI (ltB 0 i) 0 i)) (selI (ltB 0 i) 0 i) ∧ y.2.2.2.1 = nm ∧ y.2.2.2.2.1 = rows ∧ y.2.2.2.2.2.1 = over ∧ y.2.2.2.2.2.2.1 = p ∧ y.2.2.2.2.2.2.2.1
    = 0 ∧ y.2.2.2.2.2.2.2.2.1 = to ∧ y.2.2.2.2.2.2.2.2.2.1 = fr ∧ y.2.2.2.2.2.2.2.2.2.2.1 = q ∧ y.2.2.2.2.2.2.2.2.2.2.2.1 = xs) ∧ agoF y.2.2.2.2.2.2.2.2.2.2.1 y.1 y.2.1
    fr = false → need (inI i (lenI y.2.2.2.2.2.2.2.2.2.2.2.1)) (need (inI i (lenI y.2.2.2.2.2.2.2.2.2.2.2.1)) (need (AV.fn (Fn.func 95) (@List.nil AV) (AV.ptr 1 0 ::
    AV.ptr 2 0 :: AV.ptr 3 0 :: AV.ptr 4 0 :: AV.ptr 5 0 :: @List.nil AV) = AV.fn (Fn.func 95) (@List.nil AV) (AV.ptr 1 0 :: AV.ptr 2 0 :: AV.ptr 3 0 :: AV.ptr 4 0 ::
    AV.ptr 5 0 :: @List.nil AV)) (eqI n n (eqI (addW IntKind.i64 i 1) (addW IntKind.i64 i 1) (eqD y.2.2.2.1 y.2.2.2.1 (eqD y.2.2.2.2.1 y.2.2.2.2.1 (eqI y.2.2.2.2.2.1
    y.2.2.2.2.2.1 (eqD y.2.2.2.2.2.2.1 y.2.2.2.2.2.2.1 (eqI y.2.2.2.2.2.2.2.1 y.2.2.2.2.2.2.2.1 (eqI y.2.2.2.2.2.2.2.2.1 y.2.2.2.2.2.2.2.2.1 (eqI y.2.2.2.2.2.2.2.2.2.1
    y.2.2.2.2.2.2.2.2.2.1 (eqD y.2.2.2.2.2.2.2.2.2.2.1 y.2.2.2.2.2.2.2.2.2.2.1 (eqD (setI y.2.2.2.2.2.2.2.2.2.2.2.1 i false) (setI y.2.2.2.2.2.2.2.2.2.2.2.1 i false)
    (Inv (n, addW IntKind.i64 i 1, y.2.2.2.1, y.2.2.2.2.1, y.2.2.2.2.2.1, y.2.2.2.2.2.2.1, y.2.2.2.2.2.2.2.1, y.2.2.2.2.2.2.2.2.1, y.2.2.2.2.2.2.2.2.2.1, y.2.2.2.2.2.2.2.2.2.2.1,
    setI y.2.2.2.2.2.2.2.2.2.2.2.1 i false) ∧ meas (n, addW IntKind.i64 i 1, y.2.2.2.1, y.2.2.2.2.1, y.2.2.2.2.2.1, y.2.2.2.2.2.2.1, y.2.2.2.2.2.2.2.1, y.2.2.2.2.2.2.2.2.1,
    y.2.2.2.2.2.2.2.2.2.1, y.2.2.2.2.2.2.2.2.2.2.1, setI y.2.2.2.2.2.2.2.2.2.2.2.1 i false) < nn))))))))))))))) ∧ True) ∧ ∀ (y : X_sinceI), (y.1 = i ∧ y.2.1 = selI (notB
    (eqB to (-1))) (selI (ltB to (selI (ltB 0 i) 0 i)) to (selI (ltB 0 i) 0 i)) (selI (ltB 0 i) 0 i) ∧ y.2.2.2.1 = nm ∧ y.2.2.2.2.1 = rows ∧ y.2.2.2.2.2.1 = over ∧ y.2.2.2.2.2.2.1
    = p ∧ y.2.2.2.2.2.2.2.1 = 0 ∧ y.2.2.2.2.2.2.2.2.1 = to ∧ y.2.2.2.2.2.2.2.2.2.1 = fr ∧ y.2.2.2.2.2.2.2.2.2.2.1 = q ∧ y.2.2.2.2.2.2.2.2.2.2.2.1 = xs) ∧ y.2.2.2.2.2.2.2.2.2.2.2.2
    = true ∧ agoF y.2.2.2.2.2.2.2.2.2.2.1 y.1 y.2.1 fr = true → need (inI i (lenI y.2.2.2.2.2.2.2.2.2.2.2.1)) (need (inI i (lenI y.2.2.2.2.2.2.2.2.2.2.2.1)) (need (AV.fn
    (Fn.func 95) (@List.nil AV) (AV.ptr 1 0 :: AV.ptr 2 0 :: AV.ptr 3 0 :: AV.ptr 4 0 :: AV.ptr 5 0 :: @List.nil AV) = AV.fn (Fn.func 95) (@List.nil AV) (AV.ptr 1 0
    :: AV.ptr 2 0 :: AV.ptr 3 0 :: AV.ptr 4 0 :: AV.ptr 5 0 :: @List.nil AV)) (eqI n n (eqI (addW IntKind.i64 i 1) (addW IntKind.i64 i 1) (eqD y.2.2.2.1 y.2.2.2.1 (eqD
    y.2.2.2.2.1 y.2.2.2.2.1 (eqI y.2.2.2.2.2.1 y.2.2.2.2.2.1 (eqD y.2.2.2.2.2.2.1 y.2.2.2.2.2.2.1 (eqI y.2.2.2.2.2.2.2.1 y.2.2.2.2.2.2.2.1 (eqI y.2.2.2.2.2.2.2.2.1 y.2.2.2.2.2.2.2.2.1
    (eqI y.2.2.2.2.2.2.2.2.2.1 y.2.2.2.2.2.2.2.2.2.1 (eqD y.2.2.2.2.2.2.2.2.2.2.1 y.2.2.2.2.2.2.2.2.2.2.1 (eqD (setI y.2.2.2.2.2.2.2.2.2.2.2.1 i y.2.2.2.2.2.2.2.2.2.2.2.2)
    (setI y.2.2.2.2.2.2.2.2.2.2.2.1 i y.2.2.2.2.2.2.2.2.2.2.2.2) (Inv (n, addW IntKind.i64 i 1, y.2.2.2.1, y.2.2.2.2.1, y.2.2.2.2.2.1, y.2.2.2.2.2.2.1, y.2.2.2.2.2.2.2.1,
    y.2.2.2.2.2.2.2.2.1, y.2.2.2.2.2.2.2.2.2.1, y.2.2.2.2.2.2.2.2.2.2.1, setI y.2.2.2.2.2.2.2.2.2.2.2.1 i y.2.2.2.2.2.2.2.2.2.2.2.2) ∧ meas (n, addW IntKind.i64 i 1,
    y.2.2.2.1, y.2.2.2.2.1, y.2.2.2.2.2.1, y.2.2.2.2.2.2.1, y.2.2.2.2.2.2.2.1, y.2.2.2.2.2.2.2.2.1, y.2.2.2.2.2.2.2.2.2.1, y.2.2.2.2.2.2.2.2.2.2.1, setI y.2.2.2.2.2.2.2.2.2.2.2.1
    i y.2.2.2.2.2.2.2.2.2.2.2.2) < nn))))))))))))))))))))))))))))) (need (AV.fn (Fn.func 95) (@List.nil AV) (AV.ptr 1 0 :: AV.ptr 2 0 :: AV.ptr 3 0 :: AV.ptr 4 0 ::
    AV.ptr 5 0 :: @List.nil AV) = AV.fn (Fn.func 95) (@List.nil AV) (AV.ptr 1 0 :: AV.ptr 2 0 :: AV.ptr 3 0 :: AV.ptr 4 0 :: AV.ptr 5 0 :: @List.nil AV)) (eqI n n (eqI
    i i (eqD nm nm (eqD rows rows (eqI over over (eqD p p (eqI held held (eqI to to (eqI fr fr (eqD q q (eqD xs xs (EE0 (n, i, nm, rows, over, p, held, to, fr, q, xs))))))))))))))) := by kernel_rfl
theorem body_fillSince_ok : ∀ x y, Pre_fillSince x → Inv_fillSince x y → wfS (sh_fillSince y) → Hd (awp tab fs_fnAny (acall tab fs_fnAny specs_fillPrev fns_fillSincew_95 100 20) [] 100 (loopAt Try.f79 3) (bodyN sh_fillSince sx_fillSince nx_fillSince (Inv_fillSince x) (M_fillSince x) (M_fillSince x y) (D_fillSince x)) (sh_fillSince y)) := by
  rintro ⟨n0, i0, nm0, rows0, over0, p0, held0, to0, fr0, q0, xs0⟩ ⟨n, i, nm, rows, over, p, held, to, fr, q, xs⟩ hp hI hw
  obtain ⟨⟨rfl, rfl, rfl, rfl, rfl, rfl, rfl, rfl⟩, hI⟩ := hI
  have hw_n := wfL_int hw 14 rfl
  have hw_i := wfL_int hw 15 rfl
  have hw_nm := wfC_view hw 0 0 rfl
  have hw_rows := wfC_view hw 0 1 rfl
  have hw_over := wfC_int hw 0 2 rfl
  have hw_p := wfC_view hw 1 0 rfl
  have hw_held := wfC_int hw 2 0 rfl
  have hw_to := wfC_int hw 3 0 rfl
  have hw_fr := wfC_int hw 4 0 rfl
  have hw_q := wfC_view hw 5 0 rfl
  have hw_xs := wfR_row hw 6 rfl
  have hp : i0 = 0 ∧ n = lenI rows ∧ lenI xs0 = lenI rows ∧ held0 = 0 ∧ lenI p = lenI rows ∧ lenI q = lenI rows ∧ 0 ≤ fr ∧ lenI rows ≤ 1000000 := hp
  unfold D_fillSince
  rw [body_fillSince]
  refine ⟨?_⟩
  have hInv : ∀ (i : Int) (held : Int) (xs : List (den .bool)), ((0 ≤ i ∧ i ≤ n) ∧ lenI xs = lenI rows ∧ held = heldF p (i - 1) ∧ ∀ j, 0 ≤ j → j < i → nth .bool xs j = agoF q j (farF to j (heldF p j)) fr) → Inv_fillSince (n, i0, nm, rows, over, p, held0, to, fr, q, xs0) (n, i, nm, rows, over, p, held, to, fr, q, xs) := fun _ _ _ h => ⟨⟨rfl, rfl, rfl, rfl, rfl, rfl, rfl, rfl⟩, h⟩
  generalize hIe : Inv_fillSince (n, i0, nm, rows, over, p, held0, to, fr, q, xs0) = Inv at hInv ⊢
  have hMe : ∀ (i : Int) (held : Int) (xs : List (den .bool)), M_fillSince (n, i0, nm, rows, over, p, held0, to, fr, q, xs0) (n, i, nm, rows, over, p, held, to, fr, q, xs) = (n - i).toNat := fun _ _ _ => rfl
  generalize M_fillSince (n, i0, nm, rows, over, p, held0, to, fr, q, xs0) = Me at hMe ⊢
  have hE0 : ∀ (i : Int) (held : Int) (xs : List (den .bool)), (xs = sinceV (lenI rows) fr to p q) → E0_fillSince (n, i0, nm, rows, over, p, held0, to, fr, q, xs0) (n, i, nm, rows, over, p, held, to, fr, q, xs) := fun _ _ _ h => ⟨⟨rfl, rfl, rfl, rfl, rfl, rfl, rfl, rfl⟩, h⟩
  generalize E0_fillSince (n, i0, nm, rows, over, p, held0, to, fr, q, xs0) = EE0 at hE0 ⊢
  have hR : ∀ (i : Int) (held : Int) (xs : List (den .bool)), (False) → R_fillSince (n, i0, nm, rows, over, p, held0, to, fr, q, xs0) (n, i, nm, rows, over, p, held, to, fr, q, xs) := fun _ _ _ h => ⟨⟨rfl, rfl, rfl, rfl, rfl, rfl, rfl, rfl⟩, h⟩
  generalize R_fillSince (n, i0, nm, rows, over, p, held0, to, fr, q, xs0) = RR at hR ⊢
  obtain ⟨hi, hl, hh, hI⟩ := hI
  obtain ⟨p1, rfl, p3, p4, p5, p6, p7, p8⟩ := hp
  by_cases hlt : i < lenI rows
  · have ei : addW .i64 i 1 = i + 1 := addW64 (by omega) (by omega)
    have hb := heldF_bound (p := p) (i := i - 1) (by omega)
    rw [← hh] at hb
    have e1 : addW .i64 held 1 = held + 1 := addW64 (by omega) (by omega)
    have hs := held_step (p := p) hi.1
    rw [← hh] at hs
    have hib := heldF_bound (p := p) (i := i) (by omega)
    have hsub : i + 1 - 1 = i := by omega
    have hfar : farF to i (heldF p i) ≤ i := by unfold farF; split <;> omega
    have key : ∀ b, b = agoF q i (farF to i (heldF p i)) fr → Inv (lenI rows, i + 1, nm, rows, over, p, heldF p i, to, fr, q, setI xs i b) := fun b hb => by
      have hst := set_step (f := fun j => agoF q j (farF to j (heldF p j)) fr) hi.1 (by rw [hl]; exact hlt) hb hI
      exact hInv _ _ _ ⟨by omega, hst.1.trans hl, by rw [hsub], hst.2⟩
    rw [ltB_t.2 hlt]
    cases hpi : nth .bool p i
    · rw [hpi] at hs
      simp only [Bool.false_eq_true, if_false] at hs
      rw [hs] at key hfar
      simp only [ei, far_val]
      simp only [need_def, ifB_def, inI_def, eqI_def, eqD_def, eqL_def, true_and, and_true, hMe, Bool.false_eq_true, Bool.true_eq_false, false_implies, true_implies, forall_const]
      refine ⟨by omega, ⟨p7, hfar, hi.1, by omega, by omega⟩, ?_, ?_⟩
      · rintro ⟨i', far', a', nm', rows', over', p', held', to', fr', q', xs', r'⟩ ⟨hk, hx⟩
        dsimp only at hk hx ⊢
        obtain ⟨rfl, rfl, rfl, rfl, rfl, rfl, rfl, rfl, rfl, rfl, rfl⟩ := hk
        have := key _ hx.symm
        simp only [hMe]
        repeat' (first | with_reducible rfl | assumption | omega | refine ⟨?_, ?_⟩)
      · rintro ⟨i', far', a', nm', rows', over', p', held', to', fr', q', xs', r'⟩ ⟨hk, hx⟩
        dsimp only at hk hx ⊢
        obtain ⟨rfl, rfl, rfl, rfl, rfl, rfl, rfl, rfl, rfl, rfl, rfl⟩ := hk
        obtain ⟨rfl, hx⟩ := hx
        have := key _ hx.symm
        simp only [hMe]
        repeat' (first | with_reducible rfl | assumption | omega | refine ⟨?_, ?_⟩)
    · rw [hpi] at hs
      simp only [if_true] at hs
      rw [hs] at key hfar
      simp only [ei, e1, far_val]
      simp only [need_def, ifB_def, inI_def, eqI_def, eqD_def, eqL_def, true_and, and_true, hMe, Bool.false_eq_true, Bool.true_eq_false, false_implies, true_implies, forall_const]
      refine ⟨by omega, ⟨p7, hfar, hi.1, by omega, by omega⟩, ?_, ?_⟩
      · rintro ⟨i', far', a', nm', rows', over', p', held', to', fr', q', xs', r'⟩ ⟨hk, hx⟩
        dsimp only at hk hx ⊢
        obtain ⟨rfl, rfl, rfl, rfl, rfl, rfl, rfl, rfl, rfl, rfl, rfl⟩ := hk
        have := key _ hx.symm
        simp only [hMe]
        repeat' (first | with_reducible rfl | assumption | omega | refine ⟨?_, ?_⟩)
      · rintro ⟨i', far', a', nm', rows', over', p', held', to', fr', q', xs', r'⟩ ⟨hk, hx⟩
        dsimp only at hk hx ⊢
        obtain ⟨rfl, rfl, rfl, rfl, rfl, rfl, rfl, rfl, rfl, rfl, rfl⟩ := hk
        obtain ⟨rfl, hx⟩ := hx
        have := key _ hx.symm
        simp only [hMe]
        repeat' (first | with_reducible rfl | assumption | omega | refine ⟨?_, ?_⟩)
  · rw [ltB_f.2 (Int.not_lt.1 hlt)]
    simp only [simpsL, implies_true, forall_const, if_true, if_false, reduceCtorEq]
    refine hE0 _ _ _ (tab_ext hl fun j h0 h1 => hI j h0 (by omega))
theorem summ_fillSince : SummOK Try.prog (loopAt Try.f79 3) S_fillSince :=
  summN_ok (L := []) (fuel := 100) tabOK fsOK_fnAny (mkCall fsOK_fnAny specsOK_fillPrev fns_fillSincew_95OK) (fun C => mkDraw fsOK_fnAny (mkCall fsOK_fnAny specsOK_fillPrev fns_fillSincew_95OK) C) loopsOK_nil Inv_fillSince M_fillSince
    (fun x hp hw => by
      obtain ⟨n, i, nm, rows, over, p, held, to, fr, q, xs⟩ := x
      have hp : i = 0 ∧ n = lenI rows ∧ lenI xs = lenI rows ∧ held = 0 ∧ lenI p = lenI rows ∧ lenI q = lenI rows ∧ 0 ≤ fr ∧ lenI rows ≤ 1000000 := hp
      have hw_n := wfL_int hw 14 rfl
      have hw_i := wfL_int hw 15 rfl
      have hw_nm := wfC_view hw 0 0 rfl
      have hw_rows := wfC_view hw 0 1 rfl
      have hw_over := wfC_int hw 0 2 rfl
      have hw_p := wfC_view hw 1 0 rfl
      have hw_held := wfC_int hw 2 0 rfl
      have hw_to := wfC_int hw 3 0 rfl
      have hw_fr := wfC_int hw 4 0 rfl
      have hw_q := wfC_view hw 5 0 rfl
      have hw_xs := wfR_row hw 6 rfl
      obtain ⟨rfl, rfl, h, rfl, h2⟩ := hp
      exact ⟨⟨rfl, rfl, rfl, rfl, rfl, rfl, rfl, rfl⟩, ⟨by omega, lenI_nn _⟩, h, rfl, fun j _ _ => by omega⟩)
    (body_fillSince_ok)
end Go.Proofs.Ytmdjpohmbkodeaa.Sx

