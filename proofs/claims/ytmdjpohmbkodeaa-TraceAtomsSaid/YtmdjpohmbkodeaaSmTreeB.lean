/- Formulas as lists of parts: what the functions of trees come to. -/
import Derived.Test.YtmdjpohmbkodeaaSmTreeA
namespace Go.Proofs.Ytmdjpohmbkodeaa.Sx
open Go.RowKit
set_option maxRecDepth 100000
set_option maxHeartbeats 4000000
set_option linter.unusedVariables false
set_option linter.unusedSimpArgs false
instance instDecN1 : DecidableEq (List (List UInt8 × Int) × Int) := @instDecidableEqProd _ _ inferInstance inferInstance
instance instDecN2 : DecidableEq (Int × List (List UInt8 × Int) × Int) := @instDecidableEqProd _ _ inferInstance instDecN1
instance instDecN3 : DecidableEq (Int × Int × List (List UInt8 × Int) × Int) := @instDecidableEqProd _ _ inferInstance instDecN2
instance instDecN4 : DecidableEq (Int × Int × Int × List (List UInt8 × Int) × Int) := @instDecidableEqProd _ _ inferInstance instDecN3
instance instDecNode : DecidableEq (den NodeT) := @instDecidableEqProd Int (Int × Int × Int × List (List UInt8 × Int) × Int) inferInstance instDecN4
/-- what stands behind so many whole parts -/
def skipT (L : Int) : List (den NodeT) → Int → Option (List (den NodeT))
  | [], left => if left ≤ 0 then some [] else none
  | x :: l, left => if left ≤ 0 then some (x :: l) else if x.2.1 < 0 ∨ L < x.2.1 then none else skipT L l (left + x.2.1 - 1)
def endR (L : Int) (o : Option (List (den NodeT))) : Int := match o with | some r => L - lenI r | none => 0
def endF (n : List (den NodeT)) (at0 : Int) : Int := endR (lenI n) (skipT (lenI n) (n.drop at0.toNat) 1)
def smallL (n : List (den NodeT)) : Prop := lenI n ≤ 1000000
abbrev X_endT := List (den NodeT) × Int × Int × Int
def sh_endT : X_endT → St := fun x => match x with | (n, p, left, r) => ⟨setL (rep .bad 41) [(0, .view [] NodeT n), (1, .int .i64 p), (5, .int .i64 left)], [], [], []⟩
def shr_endT : X_endT → St := fun x => match x with | (n, p, left, r) => ⟨setL (rep .bad 41) [(0, .view [] NodeT n), (1, .int .i64 p), (5, .int .i64 left), (4, .int .i64 r)], [], [], []⟩
def sx_endT : AExit → X_endT → St := fun e => match e with | .ret => shr_endT | _ => sh_endT
def nx_endT (σ : St) : X_endT := (gV NodeT σ 0, gI σ 1, gI σ 5, gI σ 4)
def Pre_endT : X_endT → Prop := fun x => match x with | (n, p, left, r) => 0 ≤ p ∧ left = 1 ∧ smallL n
def E0_endT : X_endT → X_endT → Prop := fun x y => match x, y with | (n0, p0, left0, r0), (n, p, left, r) => (n = n0) ∧ (p = endF n p0)
def R_endT : X_endT → X_endT → Prop := fun x y => match x, y with | (n0, p0, left0, r0), (n, p, left, r) => (n = n0) ∧ (r = endF n p0)
def D_endT : X_endT → LEnds X_endT := fun x => ⟨[(0, E0_endT x)], R_endT x⟩
noncomputable def S_endT : Summ := summN sh_endT sx_endT nx_endT Pre_endT D_endT
def Inv_endT : X_endT → X_endT → Prop := fun x y => match x, y with | (n0, p0, left0, r0), (n, p, left, r) => (n = n0) ∧ (0 ≤ p ∧ (p ≤ lenI n ∨ 0 < left) ∧ left ≤ 1 + 1000000 * p ∧ (p ≤ lenI n ∨ left = 1) ∧ -1 ≤ left ∧ endR (lenI n) (skipT (lenI n) (n.drop p.toNat) left) = endF n p0)
def M_endT : X_endT → X_endT → Nat := fun x y => match x, y with | (n0, p0, left0, r0), (n, p, left, r) => (lenI n + 1 - p).toNat
theorem body_endT (Inv : X_endT → Prop) (meas : X_endT → Nat) (nn : Nat) (EE0 RR : X_endT → Prop) (n : List (den NodeT)) (p : Int) (left : Int) (r : Int) : awp tab fs_right (acall tab fs_right [] fns 100 20) [] 100 (loopAt Try.f34 2) (bodyN sh_endT sx_endT nx_endT Inv meas nn ⟨[(0, EE0)], RR⟩) (sh_endT (n, p, left, r)) =
  (ifB (ltB 0 left) (need (impB (notB (leB (lenI n) p)) (inI p (lenI n))) (need (impB (notB (selB (leB (lenI n) p) true (ltB (nth NodeT n p).snd.fst 0))) (inI p (lenI
    n))) (ifB (selB (selB (leB (lenI n) p) true (ltB (nth NodeT n p).snd.fst 0)) true (ltB (lenI n) (nth NodeT n p).snd.fst)) (eqD n n (eqI p p (eqI 0 0 (eqI left left
    (RR (n, p, left, 0)))))) (need (inI p (lenI n)) (eqD n n (eqI (addW IntKind.i64 p 1) (addW IntKind.i64 p 1) (eqI (addW IntKind.i64 left (subW IntKind.i64 (nth NodeT
    n p).snd.fst 1)) (addW IntKind.i64 left (subW IntKind.i64 (nth NodeT n p).snd.fst 1)) (Inv (n, addW IntKind.i64 p 1, addW IntKind.i64 left (subW IntKind.i64 (nth
    NodeT n p).snd.fst 1), 0) ∧ meas (n, addW IntKind.i64 p 1, addW IntKind.i64 left (subW IntKind.i64 (nth NodeT n p).snd.fst 1), 0) < nn)))))))) (eqD n n (eqI p p
    (eqI left left (EE0 (n, p, left, 0)))))) := by kernel_rfl
theorem body_endT_ok : ∀ x y, Pre_endT x → Inv_endT x y → wfS (sh_endT y) → Hd (awp tab fs_right (acall tab fs_right [] fns 100 20) [] 100 (loopAt Try.f34 2) (bodyN sh_endT sx_endT nx_endT (Inv_endT x) (M_endT x) (M_endT x y) (D_endT x)) (sh_endT y)) := by
  rintro ⟨n0, p0, left0, r0⟩ ⟨n, p, left, r⟩ hp hI hw
  obtain ⟨rfl, hI⟩ := hI
  have hw_n := wfL_view hw 0 rfl
  have hw_p := wfL_int hw 1 rfl
  have hw_left := wfL_int hw 5 rfl
  have hp : 0 ≤ p0 ∧ left0 = 1 ∧ smallL n := hp
  unfold D_endT
  rw [body_endT]
  refine ⟨?_⟩
  have hInv : ∀ (p : Int) (left : Int) (r : Int), (0 ≤ p ∧ (p ≤ lenI n ∨ 0 < left) ∧ left ≤ 1 + 1000000 * p ∧ (p ≤ lenI n ∨ left = 1) ∧ -1 ≤ left ∧ endR (lenI n) (skipT (lenI n) (n.drop p.toNat) left) = endF n p0) → Inv_endT (n, p0, left0, r0) (n, p, left, r) := fun _ _ _ h => ⟨rfl, h⟩
  generalize hIe : Inv_endT (n, p0, left0, r0) = Inv at hInv ⊢
  have hMe : ∀ (p : Int) (left : Int) (r : Int), M_endT (n, p0, left0, r0) (n, p, left, r) = (lenI n + 1 - p).toNat := fun _ _ _ => rfl
  generalize M_endT (n, p0, left0, r0) = Me at hMe ⊢
  have hE0 : ∀ (p : Int) (left : Int) (r : Int), (p = endF n p0) → E0_endT (n, p0, left0, r0) (n, p, left, r) := fun _ _ _ h => ⟨rfl, h⟩
  generalize E0_endT (n, p0, left0, r0) = EE0 at hE0 ⊢
  have hR : ∀ (p : Int) (left : Int) (r : Int), (r = endF n p0) → R_endT (n, p0, left0, r0) (n, p, left, r) := fun _ _ _ h => ⟨rfl, h⟩
  generalize R_endT (n, p0, left0, r0) = RR at hR ⊢
  obtain ⟨i1, i2, i3, i4, i5, hI⟩ := hI
  obtain ⟨p1, p2, p3⟩ := hp
  unfold smallL at p3
  have hlr := has64r hw_left
  have hpr := has64r hw_p
  by_cases hl : 0 < left
  · simp only [ltB_t.2 hl, simpsL, implies_true, forall_const, if_true, if_false, reduceCtorEq]
    by_cases hlt : p < lenI n
    · have hin : inI p (lenI n) := ⟨i1, hlt⟩
      have hin' : 0 ≤ p ∧ p < lenI n := hin
      rw [drop_nth (t := NodeT) i1 hlt] at hI
      obtain ⟨xo, xn, xf, xt, xs, xm, hx⟩ : ∃ (a b c d : Int) (ts : List (den TermT)) (m : Int), nth NodeT n p = (a, b, c, d, ts, m) := ⟨_, _, _, _, _, _, rfl⟩
      simp only [hx] at hI ⊢
      simp only [skipT] at hI
      rw [if_neg (by omega)] at hI
      have ep : addW .i64 p 1 = p + 1 := addW64 (by omega) (by omega)
      by_cases hbad : xn < 0 ∨ lenI n < xn
      · rw [if_pos hbad] at hI
        have hI : 0 = endF n p0 := hI
        (repeat' (first | with_reducible rfl | assumption | omega | (apply Eq.symm; assumption) | (simp only [hMe]; omega) | (exact lenI_nn _) | trivial | (refine hInv _ ?_) | (refine hInv _ _ ?_) | (refine hInv _ _ _ ?_) | (refine hInv _ _ _ _ ?_) | (refine hE0 _ ?_) | (refine hE0 _ _ ?_) | (refine hE0 _ _ _ ?_) | (refine hE0 _ _ _ _ ?_) | (refine hR _ ?_) | (refine hR _ _ ?_) | (refine hR _ _ _ ?_) | (refine hR _ _ _ _ ?_) | refine ⟨?_, ?_⟩ | intro _))
      · rw [if_neg hbad] at hI
        have es : subW .i64 xn 1 = xn - 1 := subW64 (by omega) (by omega)
        have ea : addW .i64 left (xn - 1) = left + xn - 1 := by rw [addW64 (by omega) (by omega)]; omega
        simp only [es, ea, ep]
        (repeat' (first | with_reducible rfl | assumption | omega | (apply Eq.symm; assumption) | (simp only [hMe]; omega) | (exact lenI_nn _) | trivial | (refine hInv _ ?_) | (refine hInv _ _ ?_) | (refine hInv _ _ _ ?_) | (refine hInv _ _ _ _ ?_) | (refine hE0 _ ?_) | (refine hE0 _ _ ?_) | (refine hE0 _ _ _ ?_) | (refine hE0 _ _ _ _ ?_) | (refine hR _ ?_) | (refine hR _ _ ?_) | (refine hR _ _ _ ?_) | (refine hR _ _ _ _ ?_) | refine ⟨?_, ?_⟩ | intro _))
    · have hd : n.drop p.toNat = [] := List.drop_eq_nil_of_le (by unfold lenI at hlt; omega)
      rw [hd] at hI
      simp only [skipT] at hI
      rw [if_neg (by omega)] at hI
      have hI : 0 = endF n p0 := hI
      (repeat' (first | with_reducible rfl | assumption | omega | (apply Eq.symm; assumption) | (simp only [hMe]; omega) | (exact lenI_nn _) | trivial | (refine hInv _ ?_) | (refine hInv _ _ ?_) | (refine hInv _ _ _ ?_) | (refine hInv _ _ _ _ ?_) | (refine hE0 _ ?_) | (refine hE0 _ _ ?_) | (refine hE0 _ _ _ ?_) | (refine hE0 _ _ _ _ ?_) | (refine hR _ ?_) | (refine hR _ _ ?_) | (refine hR _ _ _ ?_) | (refine hR _ _ _ _ ?_) | refine ⟨?_, ?_⟩ | intro _))
  · simp only [ltB_f.2 (Int.not_lt.1 hl), simpsL, implies_true, forall_const, if_true, if_false, reduceCtorEq]
    have hle : p ≤ lenI n := by omega
    have e : endR (lenI n) (skipT (lenI n) (n.drop p.toNat) left) = p := by
      have : skipT (lenI n) (n.drop p.toNat) left = some (n.drop p.toNat) := by
        cases hd : n.drop p.toNat <;> simp only [skipT] <;> rw [if_pos (by omega)]
      rw [this]
      unfold endR lenI at *
      simp only [List.length_drop]
      omega
    rw [e] at hI
    (repeat' (first | with_reducible rfl | assumption | omega | (apply Eq.symm; assumption) | (simp only [hMe]; omega) | (exact lenI_nn _) | trivial | (refine hInv _ ?_) | (refine hInv _ _ ?_) | (refine hInv _ _ _ ?_) | (refine hInv _ _ _ _ ?_) | (refine hE0 _ ?_) | (refine hE0 _ _ ?_) | (refine hE0 _ _ _ ?_) | (refine hE0 _ _ _ _ ?_) | (refine hR _ ?_) | (refine hR _ _ ?_) | (refine hR _ _ _ ?_) | (refine hR _ _ _ _ ?_) | refine ⟨?_, ?_⟩ | intro _))
theorem summ_endT : SummOK Try.prog (loopAt Try.f34 2) S_endT :=
  summN_ok (L := []) (fuel := 100) tabOK fsOK_right (mkCall fsOK_right specsOK_nil fnsOK) (fun C => mkDraw fsOK_right (mkCall fsOK_right specsOK_nil fnsOK) C) loopsOK_nil Inv_endT M_endT
    (fun x hp hw => by
      obtain ⟨n, p, left, r⟩ := x
      have hp : 0 ≤ p ∧ left = 1 ∧ smallL n := hp
      have hw_n := wfL_view hw 0 rfl
      have hw_p := wfL_int hw 1 rfl
      have hw_left := wfL_int hw 5 rfl
      obtain ⟨h1, rfl, h2⟩ := hp
      exact ⟨rfl, h1, .inr (by omega), by omega, .inr rfl, by omega, rfl⟩)
    (body_endT_ok)
noncomputable def fns_endT : Fns := (34, Try.f34, [(2, S_endT)]) :: fns
theorem fn_endT : FnOK Try.prog 34 Try.f34 [(2, S_endT)] := fnOK_loops Try.func34 (fun vs w => Try.call34 vs w) (by kernel_rfl) fun k S h => by
  simp only [List.mem_cons, Prod.mk.injEq, List.not_mem_nil, or_false] at h
  obtain ⟨rfl, rfl⟩ := h
  exact summ_endT
theorem fns_endTOK : FnsOK Try.prog fns_endT := fnsOK_cons fn_endT fnsOK
noncomputable def endTS : List AV → OV := fun args => match args with | [.view [] (.prod (.int .i64) (.prod (.int .i64) (.prod (.int .i64) (.prod (.int .i64) (.prod (.list (.prod .str (.int .i64))) (.int .i64)))))) n, .int .i64 p] => some ([geZ p, smallL n], .int .i64 (endF n p)) | _ => none
theorem endT_eq (n : List (den NodeT)) (p : Int) : acall tab fs_right [] fns_endT 100 20 34 [.view [] NodeT n, .int .i64 p] [] (fun o mm _ _ => resN (.any) mm o = .ret (.int .i64 (endF n p))) =
  (eqD n n (eqI p p (eqI 1 1 ((0 ≤ p ∧ (1 : Int) = 1 ∧ smallL n) ∧ ((∀ (y : X_endT), y.1 = n ∧ y.2.1 = endF y.1 p → AOut.ret (AV.int IntKind.i64 y.2.1) = AOut.ret (AV.int
    IntKind.i64 (endF n p))) ∧ True) ∧ ∀ (y : X_endT), y.1 = n ∧ y.2.2.2 = endF y.1 p → AOut.ret (AV.int IntKind.i64 y.2.2.2) = AOut.ret (AV.int IntKind.i64 (endF n
    p)))))) := by kernel_rfl
theorem endT_ok : SpecOK Try.prog 34 (fspecS (pureN [.sl NodeT] endTS)) := pureN_ok (mkCall fsOK_right specsOK_nil fns_endTOK) (.any) (fun vs w => Try.call34 vs w) fun args ps v h hp hw => by
  unfold endTS at h
  split at h
  · cases h
    rename_i n p
    rw [endT_eq]
    refine ⟨?_⟩
    simp only [allP_cons, allP_nil, and_true] at hp
    simp only [wfAL, wfA, wfS, wfM, wfB, and_true, true_and, wfT_int, wfT_str, wfT_bool, wfT_prod] at hw
    simp only [simpsL, implies_true, forall_const, if_true, if_false, reduceCtorEq]
    (repeat' (first | with_reducible rfl | assumption | omega | trivial | (rintro y ⟨hk, hx⟩; simp_all; done) | refine ⟨?_, ?_⟩ | intro _))
  · cases h
noncomputable def FF_endT : FSpec := pureN [.sl NodeT] endTS
theorem FFok_endT : SpecOK Try.prog 34 (fspecS FF_endT) := endT_ok
noncomputable def fs_endT : FS := (34, FF_endT) :: fs_right
theorem fsOK_endT : FSOK Try.prog fs_endT := fsOK_cons FFok_endT fsOK_right
/-- what is left of the last ones that are open, the last one first -/
def popG : Int → List Int → List Int
  | t, [] => if t = 0 then [] else [t]
  | t, y :: r => if t = 0 then popG (subW .i64 y 1) r else t :: y :: r
def deepG : List Int → List (den NodeT) → Bool
  | _, [] => false
  | st, x :: l => if 24 ≤ lenI st then true else deepG (popG x.2.1 st) l
def popL : List Int → List Int
  | [] => []
  | t :: r => popG t r
def deepF (n : List (den NodeT)) : Bool := deepG [] n
def popF (o : List Int) : List Int := (popL o.reverse).reverse
def le100 (o : List Int) : Prop := lenI o ≤ 100
abbrev X_deepI := List (den (.int .i64)) × List (den NodeT) × Int × Int
def sh_deepI : X_deepI → St := fun x => match x with | (o, n, len, i) => ⟨setL (rep .bad 49) [(6, .view [] NodeT n), (7, .int .i64 len), (8, .int .i64 i), (3, .own 0)], [.row 3 (.int .i64) o [], .dead, .dead], [0, 1, 2], [0, 1, 2]⟩
def sx_deepI : AExit → X_deepI → St := fun _ => sh_deepI
def nx_deepI (σ : St) : X_deepI := (rV (.int .i64) σ 0, gV NodeT σ 6, gI σ 7, gI σ 8)
def Pre_deepI : X_deepI → Prop := fun x => match x with | (o, n, len, i) => le100 o
def E2_deepI : X_deepI → X_deepI → Prop := fun x y => match x, y with | (o0, n0, len0, i0), (o, n, len, i) => (n = n0 ∧ len = len0 ∧ i = i0) ∧ (o = popF o0)
def R_deepI : X_deepI → X_deepI → Prop := fun x y => match x, y with | (o0, n0, len0, i0), (o, n, len, i) => (n = n0 ∧ len = len0 ∧ i = i0) ∧ (False)
def D_deepI : X_deepI → LEnds X_deepI := fun x => ⟨[(2, E2_deepI x)], R_deepI x⟩
noncomputable def S_deepI : Summ := summN sh_deepI sx_deepI nx_deepI Pre_deepI D_deepI
def Inv_deepI : X_deepI → X_deepI → Prop := fun x y => match x, y with | (o0, n0, len0, i0), (o, n, len, i) => (n = n0 ∧ len = len0 ∧ i = i0) ∧ (popF o = popF o0 ∧ lenI o ≤ 100)
def M_deepI : X_deepI → X_deepI → Nat := fun x y => match x, y with | (o0, n0, len0, i0), (o, n, len, i) => o.length
theorem body_deepI (Inv : X_deepI → Prop) (meas : X_deepI → Nat) (nn : Nat) (EE2 RR : X_deepI → Prop) (o : List (den (.int .i64))) (n : List (den NodeT)) (len : Int) (i : Int) : awp tab fs_endT (acall tab fs_endT [] fns 100 20) [] 100 (loopAt Try.f35 8) (bodyN sh_deepI sx_deepI nx_deepI Inv meas nn ⟨[(2, EE2)], RR⟩) (sh_deepI (o, n, len, i)) =
  (need (impB (ltB 0 (lenI o)) (inI (subW IntKind.i64 (lenI o) 1) (lenI o))) (need (impB (ltB 0 (lenI o)) (inI (subW IntKind.i64 (lenI o) 1) (lenI o))) (ifB (selB (ltB
    0 (lenI o)) (eqB (nth (Ty.int IntKind.i64) o (subW IntKind.i64 (lenI o) 1)) 0) false) (need (leI 0 (subW IntKind.i64 (lenI o) 1)) (need (leI (subW IntKind.i64 (lenI
    o) 1) (lenI o)) (ifB (ltB 0 (lenI (subL o 0 (subW IntKind.i64 (lenI o) 1)))) (need (inI (subW IntKind.i64 (lenI (subL o 0 (subW IntKind.i64 (lenI o) 1))) 1) (lenI
    (subL o 0 (subW IntKind.i64 (lenI o) 1)))) (need (inI (subW IntKind.i64 (lenI (subL o 0 (subW IntKind.i64 (lenI o) 1))) 1) (lenI (subL o 0 (subW IntKind.i64 (lenI
    o) 1)))) (need (inI (subW IntKind.i64 (lenI (subL o 0 (subW IntKind.i64 (lenI o) 1))) 1) (lenI (subL o 0 (subW IntKind.i64 (lenI o) 1)))) (need (inI (subW IntKind.i64
    (lenI (subL o 0 (subW IntKind.i64 (lenI o) 1))) 1) (lenI (subL o 0 (subW IntKind.i64 (lenI o) 1)))) (eqD n n (eqI len len (eqI i i (eqD (setI (subL o 0 (subW IntKind.i64
    (lenI o) 1)) (subW IntKind.i64 (lenI (subL o 0 (subW IntKind.i64 (lenI o) 1))) 1) (subW IntKind.i64 (nth (Ty.int IntKind.i64) (subL o 0 (subW IntKind.i64 (lenI o)
    1)) (subW IntKind.i64 (lenI (subL o 0 (subW IntKind.i64 (lenI o) 1))) 1)) 1)) (setI (subL o 0 (subW IntKind.i64 (lenI o) 1)) (subW IntKind.i64 (lenI (subL o 0 (subW
    IntKind.i64 (lenI o) 1))) 1) (subW IntKind.i64 (nth (Ty.int IntKind.i64) (subL o 0 (subW IntKind.i64 (lenI o) 1)) (subW IntKind.i64 (lenI (subL o 0 (subW IntKind.i64
    (lenI o) 1))) 1)) 1)) (Inv (setI (subL o 0 (subW IntKind.i64 (lenI o) 1)) (subW IntKind.i64 (lenI (subL o 0 (subW IntKind.i64 (lenI o) 1))) 1) (subW IntKind.i64
    (nth (Ty.int IntKind.i64) (subL o 0 (subW IntKind.i64 (lenI o) 1)) (subW IntKind.i64 (lenI (subL o 0 (subW IntKind.i64 (lenI o) 1))) 1)) 1), n, len, i) ∧ meas (setI
    (subL o 0 (subW IntKind.i64 (lenI o) 1)) (subW IntKind.i64 (lenI (subL o 0 (subW IntKind.i64 (lenI o) 1))) 1) (subW IntKind.i64 (nth (Ty.int IntKind.i64) (subL o
    0 (subW IntKind.i64 (lenI o) 1)) (subW IntKind.i64 (lenI (subL o 0 (subW IntKind.i64 (lenI o) 1))) 1)) 1), n, len, i) < nn))))))))) (eqD n n (eqI len len (eqI i
    i (eqD (subL o 0 (subW IntKind.i64 (lenI o) 1)) (subL o 0 (subW IntKind.i64 (lenI o) 1)) (Inv (subL o 0 (subW IntKind.i64 (lenI o) 1), n, len, i) ∧ meas (subL o
    0 (subW IntKind.i64 (lenI o) 1), n, len, i) < nn)))))))) (eqD n n (eqI len len (eqI i i (eqD o o (EE2 (o, n, len, i))))))))) := by kernel_rfl
theorem body_deepI_ok : ∀ x y, Pre_deepI x → Inv_deepI x y → wfS (sh_deepI y) → Hd (awp tab fs_endT (acall tab fs_endT [] fns 100 20) [] 100 (loopAt Try.f35 8) (bodyN sh_deepI sx_deepI nx_deepI (Inv_deepI x) (M_deepI x) (M_deepI x y) (D_deepI x)) (sh_deepI y)) := by
  rintro ⟨o0, n0, len0, i0⟩ ⟨o, n, len, i⟩ hp hI hw
  obtain ⟨⟨rfl, rfl, rfl⟩, hI⟩ := hI
  have hw_o := wfR_row hw 0 rfl
  have hw_n := wfL_view hw 6 rfl
  have hw_len := wfL_int hw 7 rfl
  have hw_i := wfL_int hw 8 rfl
  have hp : le100 o0 := hp
  unfold D_deepI
  rw [body_deepI]
  refine ⟨?_⟩
  have hInv : ∀ (o : List (den (.int .i64))), (popF o = popF o0 ∧ lenI o ≤ 100) → Inv_deepI (o0, n, len, i) (o, n, len, i) := fun _ h => ⟨⟨rfl, rfl, rfl⟩, h⟩
  generalize hIe : Inv_deepI (o0, n, len, i) = Inv at hInv ⊢
  have hMe : ∀ (o : List (den (.int .i64))), M_deepI (o0, n, len, i) (o, n, len, i) = o.length := fun _ => rfl
  generalize M_deepI (o0, n, len, i) = Me at hMe ⊢
  have hE2 : ∀ (o : List (den (.int .i64))), (o = popF o0) → E2_deepI (o0, n, len, i) (o, n, len, i) := fun _ h => ⟨⟨rfl, rfl, rfl⟩, h⟩
  generalize E2_deepI (o0, n, len, i) = EE2 at hE2 ⊢
  have hR : ∀ (o : List (den (.int .i64))), (False) → R_deepI (o0, n, len, i) (o, n, len, i) := fun _ h => ⟨⟨rfl, rfl, rfl⟩, h⟩
  generalize R_deepI (o0, n, len, i) = RR at hR ⊢
  obtain ⟨hI, h1⟩ := hI
  rcases List.eq_nil_or_concat o with rfl | ⟨r, t, rfl⟩
  · have e : ltB 0 (lenI ([] : List (den (.int .i64)))) = false := rfl
    simp only [e, simpsL, implies_true, forall_const, if_true, if_false, reduceCtorEq]
    refine hE2 _ ?_
    rw [← hI]; rfl
  · simp only [List.concat_eq_append] at *
    rw [len_snoc] at h1
    have h0 := lenI_nn r
    have e1 : subW .i64 (lenI (r ++ [t])) 1 = lenI r := by rw [len_snoc, subW64 (by omega) (by omega)]; omega
    have e2 : ltB 0 (lenI (r ++ [t])) = true := ltB_t.2 (by rw [len_snoc]; omega)
    have e3 : inI (lenI r) (lenI (r ++ [t])) := ⟨h0, by rw [len_snoc]; omega⟩
    have e4 : leI (lenI r) (lenI (r ++ [t])) := by unfold leI; rw [len_snoc]; omega
    have e5 : nth (.int .i64) (r ++ [t]) (lenI r) = t := nth_snoc
    have e6 : subL (r ++ [t]) 0 (lenI r) = r := subL_snoc
    simp only [e1, e2, e3, e4, e5, e6]
    by_cases ht : t = 0
    · subst ht
      have e7 : eqB (0 : Int) 0 = true := rfl
      rcases List.eq_nil_or_concat r with rfl | ⟨q, y, rfl⟩
      · have e8 : ltB 0 (lenI ([] : List (den (.int .i64)))) = false := rfl
        simp only [e7, e8, simpsL, implies_true, forall_const, if_true, if_false, reduceCtorEq, leI]
        refine ⟨by decide, hInv _ ⟨?_, by decide⟩, by simp only [hMe]; decide⟩
        rw [← hI]; rfl
      · simp only [List.concat_eq_append] at *
        have hq := lenI_nn q
        rw [len_snoc] at h1
        have f1 : subW .i64 (lenI (q ++ [y])) 1 = lenI q := by rw [len_snoc, subW64 (by omega) (by omega)]; omega
        have f2 : ltB 0 (lenI (q ++ [y])) = true := ltB_t.2 (by rw [len_snoc]; omega)
        have f3 : inI (lenI q) (lenI (q ++ [y])) := ⟨hq, by rw [len_snoc]; omega⟩
        have f5 : nth (.int .i64) (q ++ [y]) (lenI q) = y := nth_snoc
        have f6 : setI (q ++ [y]) (lenI q) (subW .i64 y 1) = q ++ [subW .i64 y 1] := setI_snoc
        have f7 : leI 0 (lenI (q ++ [y])) := by unfold leI; rw [len_snoc]; omega
        simp only [e7, f1, f2, f3, f5, f6, f7, simpsL, implies_true, forall_const, if_true, if_false, reduceCtorEq]
        refine ⟨hInv _ ⟨?_, ?_⟩, ?_⟩
        · rw [← hI]
          simp [popF, popL, popG]
        · rw [len_snoc]; omega
        · simp only [hMe]; simp
    · have e7 : eqB t 0 = false := eqB_f.2 ht
      simp only [e7, simpsL, implies_true, forall_const, if_true, if_false, reduceCtorEq]
      refine hE2 _ ?_
      rw [← hI]
      simp only [popF, List.reverse_append, List.reverse_cons, List.reverse_nil, List.nil_append, List.singleton_append, popL]
      cases hr : r.reverse with
      | nil => simp only [popG, if_neg ht]; rw [List.reverse_eq_nil_iff.1 hr]; rfl
      | cons y q => simp only [popG, if_neg ht]; rw [← hr]; simp
theorem summ_deepI : SummOK Try.prog (loopAt Try.f35 8) S_deepI :=
  summN_ok (L := []) (fuel := 100) tabOK fsOK_endT (mkCall fsOK_endT specsOK_nil fnsOK) (fun C => mkDraw fsOK_endT (mkCall fsOK_endT specsOK_nil fnsOK) C) loopsOK_nil Inv_deepI M_deepI
    (fun x hp hw => by
      obtain ⟨o, n, len, i⟩ := x
      have hp : le100 o := hp
      have hw_o := wfR_row hw 0 rfl
      have hw_n := wfL_view hw 6 rfl
      have hw_len := wfL_int hw 7 rfl
      have hw_i := wfL_int hw 8 rfl
      exact ⟨⟨rfl, rfl, rfl⟩, rfl, hp⟩)
    (body_deepI_ok)
theorem popG_len : ∀ (r : List Int) (t : Int), lenI (popG t r) ≤ lenI r + 1
  | [], t => by simp only [popG]; split <;> simp [lenI]
  | y :: r, t => by
    simp only [popG]
    split
    · have := popG_len r (subW .i64 y 1); rw [len_cons]; omega
    · rw [len_cons, len_cons]; omega
theorem popF_len (o : List Int) : lenI (popF o) ≤ lenI o := by
  have h : lenI (popL o.reverse) ≤ lenI o.reverse := by
    cases o.reverse with
    | nil => exact Int.le_refl _
    | cons t r => rw [len_cons]; exact popG_len r t
  simpa [popF, lenI] using h
abbrev X_deepO := List (den (.int .i64)) × List (den NodeT) × Int × Int × Bool
def sh_deepO : X_deepO → St := fun x => match x with | (o, n, len, i, r) => ⟨setL (rep .bad 49) [(6, .view [] NodeT n), (7, .int .i64 len), (8, .int .i64 i), (3, .own 0)], [.row 3 (.int .i64) o []], [0, 1, 2], [0, 1, 2]⟩
def shr_deepO : X_deepO → St := fun x => match x with | (o, n, len, i, r) => ⟨setL (rep .bad 49) [(6, .view [] NodeT n), (7, .int .i64 len), (8, .int .i64 i), (2, .bool r), (3, .own 0)], [.row 3 (.int .i64) o []], [0, 1, 2], [0, 1, 2]⟩
def sx_deepO : AExit → X_deepO → St := fun e => match e with | .ret => shr_deepO | _ => sh_deepO
def nx_deepO (σ : St) : X_deepO := (rV (.int .i64) σ 0, gV NodeT σ 6, gI σ 7, gI σ 8, gB σ 2)
def Pre_deepO : X_deepO → Prop := fun x => match x with | (o, n, len, i, r) => i = 0 ∧ len = lenI n ∧ o = []
def E0_deepO : X_deepO → X_deepO → Prop := fun x y => match x, y with | (o0, n0, len0, i0, r0), (o, n, len, i, r) => (n = n0 ∧ len = len0) ∧ (deepF n = false)
def R_deepO : X_deepO → X_deepO → Prop := fun x y => match x, y with | (o0, n0, len0, i0, r0), (o, n, len, i, r) => (n = n0 ∧ len = len0) ∧ (r = deepF n)
def D_deepO : X_deepO → LEnds X_deepO := fun x => ⟨[(0, E0_deepO x)], R_deepO x⟩
noncomputable def S_deepO : Summ := summN sh_deepO sx_deepO nx_deepO Pre_deepO D_deepO
def Inv_deepO : X_deepO → X_deepO → Prop := fun x y => match x, y with | (o0, n0, len0, i0, r0), (o, n, len, i, r) => (n = n0 ∧ len = len0) ∧ ((0 ≤ i ∧ i ≤ len) ∧ lenI o ≤ 24 ∧ deepG o.reverse (n.drop i.toNat) = deepF n)
def M_deepO : X_deepO → X_deepO → Nat := fun x y => match x, y with | (o0, n0, len0, i0, r0), (o, n, len, i, r) => (len - i).toNat
theorem body_deepO (Inv : X_deepO → Prop) (meas : X_deepO → Nat) (nn : Nat) (EE0 RR : X_deepO → Prop) (o : List (den (.int .i64))) (n : List (den NodeT)) (len : Int) (i : Int) (r : Bool) : awp tab fs_endT (acall tab fs_endT [] fns 100 20) [(8, S_deepI)] 100 (loopAt Try.f35 3) (bodyN sh_deepO sx_deepO nx_deepO Inv meas nn ⟨[(0, EE0)], RR⟩) (sh_deepO (o, n, len, i, r)) =
  (ifB (ltB i len) (need (inI i (lenI n)) (ifB (leB 24 (lenI o)) (eqL true true (eqD n n (eqI len len (eqI i i (eqD o o (RR (o, n, len, i, true))))))) (need (fitA (lenI
    o + 1)) (eqD n n (eqI len len (eqI i i (eqD (appL o ((nth NodeT n i).snd.fst :: @List.nil (den (Ty.int IntKind.i64)))) (appL o ((nth NodeT n i).snd.fst :: @List.nil
    (den (Ty.int IntKind.i64)))) (le100 (appL o ((nth NodeT n i).snd.fst :: @List.nil (den (Ty.int IntKind.i64)))) ∧ ((∀ (y : X_deepI), (y.2.1 = n ∧ y.2.2.1 = len ∧
    y.2.2.2 = i) ∧ y.1 = popF (appL o ((nth NodeT n i).snd.fst :: @List.nil (den (Ty.int IntKind.i64)))) → eqD y.2.1 y.2.1 (eqI y.2.2.1 y.2.2.1 (eqI (addW IntKind.i64
    y.2.2.2 1) (addW IntKind.i64 y.2.2.2 1) (eqD y.1 y.1 (Inv (y.1, y.2.1, y.2.2.1, addW IntKind.i64 y.2.2.2 1, false) ∧ meas (y.1, y.2.1, y.2.2.1, addW IntKind.i64
    y.2.2.2 1, false) < nn))))) ∧ True) ∧ ∀ (y : X_deepI), (y.2.1 = n ∧ y.2.2.1 = len ∧ y.2.2.2 = i) ∧ False → need (AV.bad = AV.bool false) (eqD y.2.1 y.2.1 (eqI y.2.2.1
    y.2.2.1 (eqI y.2.2.2 y.2.2.2 (eqD y.1 y.1 (RR (y.1, y.2.1, y.2.2.1, y.2.2.2, false)))))))))))))) (eqD n n (eqI len len (eqI i i (eqD o o (EE0 (o, n, len, i, false))))))) := by kernel_rfl
theorem body_deepO_ok : ∀ x y, Pre_deepO x → Inv_deepO x y → wfS (sh_deepO y) → Hd (awp tab fs_endT (acall tab fs_endT [] fns 100 20) [(8, S_deepI)] 100 (loopAt Try.f35 3) (bodyN sh_deepO sx_deepO nx_deepO (Inv_deepO x) (M_deepO x) (M_deepO x y) (D_deepO x)) (sh_deepO y)) := by
  rintro ⟨o0, n0, len0, i0, r0⟩ ⟨o, n, len, i, r⟩ hp hI hw
  obtain ⟨⟨rfl, rfl⟩, hI⟩ := hI
  have hw_o := wfR_row hw 0 rfl
  have hw_n := wfL_view hw 6 rfl
  have hw_len := wfL_int hw 7 rfl
  have hw_i := wfL_int hw 8 rfl
  have hp : i0 = 0 ∧ len = lenI n ∧ o0 = [] := hp
  unfold D_deepO
  rw [body_deepO]
  refine ⟨?_⟩
  have hInv : ∀ (o : List (den (.int .i64))) (i : Int) (r : Bool), ((0 ≤ i ∧ i ≤ len) ∧ lenI o ≤ 24 ∧ deepG o.reverse (n.drop i.toNat) = deepF n) → Inv_deepO (o0, n, len, i0, r0) (o, n, len, i, r) := fun _ _ _ h => ⟨⟨rfl, rfl⟩, h⟩
  generalize hIe : Inv_deepO (o0, n, len, i0, r0) = Inv at hInv ⊢
  have hMe : ∀ (o : List (den (.int .i64))) (i : Int) (r : Bool), M_deepO (o0, n, len, i0, r0) (o, n, len, i, r) = (len - i).toNat := fun _ _ _ => rfl
  generalize M_deepO (o0, n, len, i0, r0) = Me at hMe ⊢
  have hE0 : ∀ (o : List (den (.int .i64))) (i : Int) (r : Bool), (deepF n = false) → E0_deepO (o0, n, len, i0, r0) (o, n, len, i, r) := fun _ _ _ h => ⟨⟨rfl, rfl⟩, h⟩
  generalize E0_deepO (o0, n, len, i0, r0) = EE0 at hE0 ⊢
  have hR : ∀ (o : List (den (.int .i64))) (i : Int) (r : Bool), (r = deepF n) → R_deepO (o0, n, len, i0, r0) (o, n, len, i, r) := fun _ _ _ h => ⟨⟨rfl, rfl⟩, h⟩
  generalize R_deepO (o0, n, len, i0, r0) = RR at hR ⊢
  obtain ⟨hi, h24, hI⟩ := hI
  obtain ⟨p1, rfl, p3⟩ := hp
  have hlen := wfT_len hw_n
  by_cases hlt : i < lenI n
  · rw [drop_nth (t := NodeT) hi.1 hlt] at hI
    obtain ⟨xo, xn, xf, xt, xs, xm, hx⟩ : ∃ (a b c d : Int) (ts : List (den TermT)) (m : Int), nth NodeT n i = (a, b, c, d, ts, m) := ⟨_, _, _, _, _, _, rfl⟩
    simp only [hx] at hI ⊢
    have ei : addW .i64 i 1 = i + 1 := addW64 (by omega) (by omega)
    have hin : inI i (lenI n) := ⟨hi.1, hlt⟩
    have hrev : lenI o.reverse = lenI o := by simp [lenI]
    simp only [deepG, hrev] at hI
    have hin' : 0 ≤ i ∧ i < lenI n := hin
    by_cases h24' : 24 ≤ lenI o
    · rw [if_pos h24'] at hI
      simp only [ltB_t.2 hlt, leB_t.2 h24', simpsL, implies_true, forall_const, if_true, if_false, reduceCtorEq]
      (repeat' (first | with_reducible rfl | assumption | omega | (apply Eq.symm; assumption) | (simp only [hMe]; omega) | (exact lenI_nn _) | trivial | (refine hInv _ ?_) | (refine hInv _ _ ?_) | (refine hInv _ _ _ ?_) | (refine hInv _ _ _ _ ?_) | (refine hE0 _ ?_) | (refine hE0 _ _ ?_) | (refine hE0 _ _ _ ?_) | (refine hE0 _ _ _ _ ?_) | (refine hR _ ?_) | (refine hR _ _ ?_) | (refine hR _ _ _ ?_) | (refine hR _ _ _ _ ?_) | refine ⟨?_, ?_⟩ | intro _))
    · rw [if_neg h24'] at hI
      have hfit : fitA (lenI o + 1) := by unfold fitA; omega
      have hle : le100 (o ++ [xn]) := by unfold le100; rw [len_snoc]; omega
      simp only [ltB_t.2 hlt, leB_f.2 (Int.not_le.1 h24'), hfit, hle, simpsL, implies_true, forall_const, if_true, if_false, reduceCtorEq]
      refine ⟨hin', ?_⟩
      rintro ⟨y1, y2, y3, y4⟩ ⟨hk, hy⟩
      dsimp only at hk hy ⊢
      obtain ⟨rfl, rfl, rfl⟩ := hk
      have e9 : popF (o ++ [xn]) = (popG xn o.reverse).reverse := by simp [popF, popL]
      have e10 := popF_len (o ++ [xn])
      rw [len_snoc] at e10
      subst hy
      rw [ei]
      refine ⟨hInv _ _ _ ⟨by omega, by omega, ?_⟩, ?_⟩
      · rw [e9, List.reverse_reverse]; exact hI
      · simp only [hMe]; omega
  · rw [drop_all (by omega)] at hI
    simp only [deepG] at hI
    simp only [ltB_f.2 (Int.not_lt.1 hlt), simpsL, implies_true, forall_const, if_true, if_false, reduceCtorEq]
    (repeat' (first | with_reducible rfl | assumption | omega | (apply Eq.symm; assumption) | (simp only [hMe]; omega) | (exact lenI_nn _) | trivial | (refine hInv _ ?_) | (refine hInv _ _ ?_) | (refine hInv _ _ _ ?_) | (refine hInv _ _ _ _ ?_) | (refine hE0 _ ?_) | (refine hE0 _ _ ?_) | (refine hE0 _ _ _ ?_) | (refine hE0 _ _ _ _ ?_) | (refine hR _ ?_) | (refine hR _ _ ?_) | (refine hR _ _ _ ?_) | (refine hR _ _ _ _ ?_) | refine ⟨?_, ?_⟩ | intro _))
theorem lok_deepO : LoopsOK Try.prog [(8, S_deepI)] (loopAt Try.f35 3) := loopsOK_at (by kernel_rfl) fun k S h => by
  simp only [List.mem_cons, Prod.mk.injEq, List.not_mem_nil, or_false] at h
  obtain ⟨rfl, rfl⟩ := h
  exact (by kernel_rfl : findLoop (loopsOf (loopAt Try.f35 3)) 8 = loopAt Try.f35 8) ▸ summ_deepI
theorem summ_deepO : SummOK Try.prog (loopAt Try.f35 3) S_deepO :=
  summN_ok (L := [(8, S_deepI)]) (fuel := 100) tabOK fsOK_endT (mkCall fsOK_endT specsOK_nil fnsOK) (fun C => mkDraw fsOK_endT (mkCall fsOK_endT specsOK_nil fnsOK) C) lok_deepO Inv_deepO M_deepO
    (fun x hp hw => by
      obtain ⟨o, n, len, i, r⟩ := x
      have hp : i = 0 ∧ len = lenI n ∧ o = [] := hp
      have hw_o := wfR_row hw 0 rfl
      have hw_n := wfL_view hw 6 rfl
      have hw_len := wfL_int hw 7 rfl
      have hw_i := wfL_int hw 8 rfl
      obtain ⟨rfl, rfl, rfl⟩ := hp
      exact ⟨⟨rfl, rfl⟩, ⟨by omega, lenI_nn _⟩, by decide, rfl⟩)
    (body_deepO_ok)
noncomputable def fns_deep_35 : Fns := (35, Try.f35, [(8, S_deepI)]) :: fns
theorem fn_deep_35 : FnOK Try.prog 35 Try.f35 [(8, S_deepI)] := fnOK_loops Try.func35 (fun vs w => Try.call35 vs w) (by kernel_rfl) fun k S h => by
  simp only [List.mem_cons, Prod.mk.injEq, List.not_mem_nil, or_false] at h
  obtain ⟨rfl, rfl⟩ := h
  exact summ_deepI
theorem fns_deep_35OK : FnsOK Try.prog fns_deep_35 := fnsOK_cons fn_deep_35 fnsOK
noncomputable def fns_deep : Fns := (35, Try.f35, [(3, S_deepO)]) :: fns_deep_35
theorem fn_deep : FnOK Try.prog 35 Try.f35 [(3, S_deepO)] := fnOK_loops Try.func35 (fun vs w => Try.call35 vs w) (by kernel_rfl) fun k S h => by
  simp only [List.mem_cons, Prod.mk.injEq, List.not_mem_nil, or_false] at h
  obtain ⟨rfl, rfl⟩ := h
  exact summ_deepO
theorem fns_deepOK : FnsOK Try.prog fns_deep := fnsOK_cons fn_deep fns_deep_35OK
noncomputable def deepS : List AV → OV := fun args => match args with | [.view [] (.prod (.int .i64) (.prod (.int .i64) (.prod (.int .i64) (.prod (.int .i64) (.prod (.list (.prod .str (.int .i64))) (.int .i64)))))) n] => some ([], .bool (deepF n)) | _ => none
theorem deep_eq (n : List (den NodeT)) : acall tab fs_endT [] fns_deep 100 20 35 [.view [] NodeT n] [] (fun o mm _ _ => resN (.any) mm o = .ret (.bool (deepF n))) =
  (eqD n n (eqI (lenI n) (lenI n) (eqI 0 0 (eqD (@List.nil (den (Ty.int IntKind.i64))) (@List.nil (den (Ty.int IntKind.i64))) (((0 : Int) = 0 ∧ lenI n = lenI n ∧ @List.nil
    (den (Ty.int IntKind.i64)) = @List.nil (den (Ty.int IntKind.i64))) ∧ ((∀ (y : X_deepO), (y.2.1 = n ∧ y.2.2.1 = lenI n) ∧ deepF y.2.1 = false → AOut.ret (AV.bool
    false) = AOut.ret (AV.bool (deepF n))) ∧ True) ∧ ∀ (y : X_deepO), (y.2.1 = n ∧ y.2.2.1 = lenI n) ∧ y.2.2.2.2 = deepF y.2.1 → AOut.ret (AV.bool y.2.2.2.2) = AOut.ret
    (AV.bool (deepF n))))))) := by kernel_rfl
theorem deep_ok : SpecOK Try.prog 35 (fspecS (pureN [.sl NodeT] deepS)) := pureN_ok (mkCall fsOK_endT specsOK_nil fns_deepOK) (.any) (fun vs w => Try.call35 vs w) fun args ps v h hp hw => by
  unfold deepS at h
  split at h
  · cases h
    rename_i n
    rw [deep_eq]
    refine ⟨?_⟩
    simp only [allP_cons, allP_nil, and_true] at hp
    simp only [wfAL, wfA, wfS, wfM, wfB, and_true, true_and, wfT_int, wfT_str, wfT_bool, wfT_prod] at hw
    simp only [simpsL, implies_true, forall_const, if_true, if_false, reduceCtorEq]
    (repeat' (first | with_reducible rfl | assumption | omega | trivial | (rintro y ⟨hk, hx⟩; simp_all; done) | refine ⟨?_, ?_⟩ | intro _))
  · cases h
noncomputable def FF_deep : FSpec := pureN [.sl NodeT] deepS
theorem FFok_deep : SpecOK Try.prog 35 (fspecS FF_deep) := deep_ok
noncomputable def fs_deep : FS := (35, FF_deep) :: fs_endT
theorem fsOK_deep : FSOK Try.prog fs_deep := fsOK_cons FFok_deep fsOK_endT
def nrightF (x : den NodeT) : Bool := notB (rightF x.1 x.2.1 x.2.2.1 x.2.2.2.1 x.2.2.2.2.1 x.2.2.2.2.2)
def fits {α : Type} (n : List α) : Prop := lenI n ≤ 1000000000
noncomputable def valid1S : List AV → OV := fun args => match args with | [.agg [.int .i64 op, .int .i64 nn, .int .i64 fr, .int .i64 to, .view [] (.prod .str (.int .i64)) ts, .int .i64 num]] => some ([], .bool (notB (rightF op nn fr to ts num))) | _ => none
theorem valid1_eq (op nn fr to : Int) (ts : List (den TermT)) (num : Int) : acall tab fs_deep [] fns 100 20 32 [.agg [.int .i64 op, .int .i64 nn, .int .i64 fr, .int .i64 to, .view [] TermT ts, .int .i64 num]] [] (fun o mm _ _ => resN (.any) mm o = .ret (.bool (notB (rightF op nn fr to ts num)))) =
  (AOut.ret (AV.bool (notB (rightF op nn fr to ts num))) = AOut.ret (AV.bool (notB (rightF op nn fr to ts num)))) := by kernel_rfl
theorem valid1_ok : SpecOK Try.prog 32 (fspecS (pureN [] valid1S)) := pureN_ok (mkCall fsOK_deep specsOK_nil fnsOK) (.any) (fun vs w => Try.call32 vs w) fun args ps v h hp hw => by
  unfold valid1S at h
  split at h
  · cases h
    rename_i op nn fr to ts num
    rw [valid1_eq]
    refine ⟨?_⟩
    simp only [allP_cons, allP_nil, and_true] at hp
    simp only [wfAL, wfA, wfS, wfM, wfB, and_true, true_and, wfT_int, wfT_str, wfT_bool, wfT_prod] at hw
    first | (simp only [simpsL, implies_true, forall_const, if_true, if_false, reduceCtorEq]; done) | (simp only [simpsL, implies_true, forall_const, if_true, if_false, reduceCtorEq]; rfl)
  · cases h
noncomputable def FF_valid1 : FSpec := pureN [] valid1S
theorem FFok_valid1 : SpecOK Try.prog 32 (fspecS FF_valid1) := valid1_ok
noncomputable def fs_valid1 : FS := (32, FF_valid1) :: fs_deep
theorem fsOK_valid1 : FSOK Try.prog fs_valid1 := fsOK_cons FFok_valid1 fsOK_deep
def idxRight_p  (x : den NodeT) : Bool := notB (rightF x.1 x.2.1 x.2.2.1 x.2.2.2.1 x.2.2.2.2.1 x.2.2.2.2.2)
def idxRight_f  (n : List (den NodeT)) : Int := idxG (idxRight_p ) n 0
theorem idxRight_any  (n : List (den NodeT)) : leB 0 (idxRight_f  n) = n.any (idxRight_p ) := idxG_any (by omega)
abbrev X_idxRight := List (den NodeT) × Int × Int × Int
def sh_idxRight : X_idxRight → St := fun x => match x with | (n, len, i, r) => ⟨setL (rep .bad 19) [(0, .view [] NodeT n), (7, .int .i64 len), (8, .int .i64 i), (1, .fn (.func 32) [] [])], [], [], []⟩
def shr_idxRight : X_idxRight → St := fun x => match x with | (n, len, i, r) => ⟨setL (rep .bad 19) [(0, .view [] NodeT n), (7, .int .i64 len), (8, .int .i64 i), (4, .int .i64 r), (1, .fn (.func 32) [] [])], [], [], []⟩
def sx_idxRight : AExit → X_idxRight → St := fun e => match e with | .ret => shr_idxRight | _ => sh_idxRight
def nx_idxRight (σ : St) : X_idxRight := (gV NodeT σ 0, gI σ 7, gI σ 8, gI σ 4)
def Pre_idxRight : X_idxRight → Prop := fun x => match x with | (n, len, i, r) => i = 0 ∧ len = lenI n
def E0_idxRight : X_idxRight → X_idxRight → Prop := fun x y => match x, y with | (n0, len0, i0, r0), (n, len, i, r) => (n = n0 ∧ len = len0) ∧ (idxRight_f  n = -1)
def R_idxRight : X_idxRight → X_idxRight → Prop := fun x y => match x, y with | (n0, len0, i0, r0), (n, len, i, r) => (n = n0 ∧ len = len0) ∧ (r = idxRight_f  n)
def D_idxRight : X_idxRight → LEnds X_idxRight := fun x => ⟨[(0, E0_idxRight x)], R_idxRight x⟩
noncomputable def S_idxRight : Summ := summN sh_idxRight sx_idxRight nx_idxRight Pre_idxRight D_idxRight
def Inv_idxRight : X_idxRight → X_idxRight → Prop := fun x y => match x, y with | (n0, len0, i0, r0), (n, len, i, r) => (n = n0 ∧ len = len0) ∧ ((0 ≤ i ∧ i ≤ len) ∧ idxG (idxRight_p ) (n.drop i.toNat) i = idxRight_f  n)
def M_idxRight : X_idxRight → X_idxRight → Nat := fun x y => match x, y with | (n0, len0, i0, r0), (n, len, i, r) => (len - i).toNat
theorem body_idxRight (Inv : X_idxRight → Prop) (meas : X_idxRight → Nat) (nn : Nat) (EE0 RR : X_idxRight → Prop) (n : List (den NodeT)) (len : Int) (i : Int) (r : Int) : awp tab fs_valid1 (acall tab fs_valid1 [] fns 100 20) [] 100 (loopAt Try.f54 2) (bodyN sh_idxRight sx_idxRight nx_idxRight Inv meas nn ⟨[(0, EE0)], RR⟩) (sh_idxRight (n, len, i, r)) =
  (ifB (ltB i len) (need (inI i (lenI n)) (ifB (notB (rightF (nth NodeT n i).fst (nth NodeT n i).snd.fst (nth NodeT n i).snd.snd.fst (nth NodeT n i).snd.snd.snd.fst
    (nth NodeT n i).snd.snd.snd.snd.fst (nth NodeT n i).snd.snd.snd.snd.snd)) (eqD n n (need (AV.fn (Fn.func 32) (@List.nil AV) (@List.nil AV) = AV.fn (Fn.func 32) (@List.nil
    AV) (@List.nil AV)) (eqI i i (eqI len len (eqI i i (RR (n, len, i, i))))))) (eqD n n (need (AV.fn (Fn.func 32) (@List.nil AV) (@List.nil AV) = AV.fn (Fn.func 32)
    (@List.nil AV) (@List.nil AV)) (eqI len len (eqI (addW IntKind.i64 i 1) (addW IntKind.i64 i 1) (Inv (n, len, addW IntKind.i64 i 1, 0) ∧ meas (n, len, addW IntKind.i64
    i 1, 0) < nn))))))) (eqD n n (need (AV.fn (Fn.func 32) (@List.nil AV) (@List.nil AV) = AV.fn (Fn.func 32) (@List.nil AV) (@List.nil AV)) (eqI len len (eqI i i (EE0
    (n, len, i, 0))))))) := by kernel_rfl
theorem body_idxRight_ok : ∀ x y, Pre_idxRight x → Inv_idxRight x y → wfS (sh_idxRight y) → Hd (awp tab fs_valid1 (acall tab fs_valid1 [] fns 100 20) [] 100 (loopAt Try.f54 2) (bodyN sh_idxRight sx_idxRight nx_idxRight (Inv_idxRight x) (M_idxRight x) (M_idxRight x y) (D_idxRight x)) (sh_idxRight y)) := by
  rintro ⟨n0, len0, i0, r0⟩ ⟨n, len, i, r⟩ hp hI hw
  obtain ⟨⟨rfl, rfl⟩, hI⟩ := hI
  have hw_n := wfL_view hw 0 rfl
  have hw_len := wfL_int hw 7 rfl
  have hw_i := wfL_int hw 8 rfl
  have hp : i0 = 0 ∧ len = lenI n := hp
  unfold D_idxRight
  rw [body_idxRight]
  refine ⟨?_⟩
  have hInv : ∀ (i : Int) (r : Int), ((0 ≤ i ∧ i ≤ len) ∧ idxG (idxRight_p ) (n.drop i.toNat) i = idxRight_f  n) → Inv_idxRight (n, len, i0, r0) (n, len, i, r) := fun _ _ h => ⟨⟨rfl, rfl⟩, h⟩
  generalize hIe : Inv_idxRight (n, len, i0, r0) = Inv at hInv ⊢
  have hMe : ∀ (i : Int) (r : Int), M_idxRight (n, len, i0, r0) (n, len, i, r) = (len - i).toNat := fun _ _ => rfl
  generalize M_idxRight (n, len, i0, r0) = Me at hMe ⊢
  have hE0 : ∀ (i : Int) (r : Int), (idxRight_f  n = -1) → E0_idxRight (n, len, i0, r0) (n, len, i, r) := fun _ _ h => ⟨⟨rfl, rfl⟩, h⟩
  generalize E0_idxRight (n, len, i0, r0) = EE0 at hE0 ⊢
  have hR : ∀ (i : Int) (r : Int), (r = idxRight_f  n) → R_idxRight (n, len, i0, r0) (n, len, i, r) := fun _ _ h => ⟨⟨rfl, rfl⟩, h⟩
  generalize R_idxRight (n, len, i0, r0) = RR at hR ⊢
  obtain ⟨hi, hI⟩ := hI
  obtain ⟨p1, rfl⟩ := hp
  by_cases hlt : i < lenI n
  · rw [drop_nth (t := NodeT) hi.1 hlt] at hI
    simp only [idxG] at hI
    have hlen := wfT_len hw_n
    have hwx := wfT_nth hw_n hi.1 hlt
    have ei : addW .i64 i 1 = i + 1 := addW64 (by omega) (by omega)
    have hin : inI i (lenI n) := ⟨hi.1, hlt⟩
    cases hb : idxRight_p  (nth NodeT n i)
    · rw [hb] at hI
      have hb2 := hb
      unfold idxRight_p at hb2
      simp only [ltB_t.2 hlt, hb2, hin, ei, hMe, simpsL, implies_true, forall_const, if_true, if_false, reduceCtorEq] at hI ⊢
      (repeat' (first | with_reducible rfl | assumption | omega | (apply Eq.symm; assumption) | (simp only [hMe]; omega) | (exact lenI_nn _) | trivial | (refine hInv _ ?_) | (refine hInv _ _ ?_) | (refine hInv _ _ _ ?_) | (refine hInv _ _ _ _ ?_) | (refine hE0 _ ?_) | (refine hE0 _ _ ?_) | (refine hE0 _ _ _ ?_) | (refine hE0 _ _ _ _ ?_) | (refine hR _ ?_) | (refine hR _ _ ?_) | (refine hR _ _ _ ?_) | (refine hR _ _ _ _ ?_) | refine ⟨?_, ?_⟩ | intro _))
    · rw [hb] at hI
      have hb2 := hb
      unfold idxRight_p at hb2
      simp only [ltB_t.2 hlt, hb2, hin, ei, hMe, simpsL, implies_true, forall_const, if_true, if_false, reduceCtorEq] at hI ⊢
      (repeat' (first | with_reducible rfl | assumption | omega | (apply Eq.symm; assumption) | (simp only [hMe]; omega) | (exact lenI_nn _) | trivial | (refine hInv _ ?_) | (refine hInv _ _ ?_) | (refine hInv _ _ _ ?_) | (refine hInv _ _ _ _ ?_) | (refine hE0 _ ?_) | (refine hE0 _ _ ?_) | (refine hE0 _ _ _ ?_) | (refine hE0 _ _ _ _ ?_) | (refine hR _ ?_) | (refine hR _ _ ?_) | (refine hR _ _ _ ?_) | (refine hR _ _ _ _ ?_) | refine ⟨?_, ?_⟩ | intro _))
  · rw [drop_all (by omega)] at hI
    simp only [idxG] at hI
    rw [ltB_f.2 (Int.not_lt.1 hlt)]
    simp only [simpsL, implies_true, forall_const, if_true, if_false, reduceCtorEq]
    (repeat' (first | with_reducible rfl | assumption | omega | (apply Eq.symm; assumption) | (simp only [hMe]; omega) | (exact lenI_nn _) | trivial | (refine hInv _ ?_) | (refine hInv _ _ ?_) | (refine hInv _ _ _ ?_) | (refine hInv _ _ _ _ ?_) | (refine hE0 _ ?_) | (refine hE0 _ _ ?_) | (refine hE0 _ _ _ ?_) | (refine hE0 _ _ _ _ ?_) | (refine hR _ ?_) | (refine hR _ _ ?_) | (refine hR _ _ _ ?_) | (refine hR _ _ _ _ ?_) | refine ⟨?_, ?_⟩ | intro _))
theorem summ_idxRight : SummOK Try.prog (loopAt Try.f54 2) S_idxRight :=
  summN_ok (L := []) (fuel := 100) tabOK fsOK_valid1 (mkCall fsOK_valid1 specsOK_nil fnsOK) (fun C => mkDraw fsOK_valid1 (mkCall fsOK_valid1 specsOK_nil fnsOK) C) loopsOK_nil Inv_idxRight M_idxRight
    (fun x hp hw => by
      obtain ⟨n, len, i, r⟩ := x
      have hp : i = 0 ∧ len = lenI n := hp
      have hw_n := wfL_view hw 0 rfl
      have hw_len := wfL_int hw 7 rfl
      have hw_i := wfL_int hw 8 rfl
      obtain ⟨rfl, rfl⟩ := hp
      exact ⟨⟨rfl, rfl⟩, ⟨by omega, lenI_nn _⟩, rfl⟩)
    (body_idxRight_ok)
noncomputable def fns_idxRight : Fns := (54, Try.f54, [(2, S_idxRight)]) :: fns
theorem fn_idxRight : FnOK Try.prog 54 Try.f54 [(2, S_idxRight)] := fnOK_loops Try.func54 (fun vs w => Try.call54 vs w) (by kernel_rfl) fun k S h => by
  simp only [List.mem_cons, Prod.mk.injEq, List.not_mem_nil, or_false] at h
  obtain ⟨rfl, rfl⟩ := h
  exact summ_idxRight
theorem fns_idxRightOK : FnsOK Try.prog fns_idxRight := fnsOK_cons fn_idxRight fnsOK
noncomputable def idxRightS : List AV → OV := fun args => match args with | [.view [] (.prod (.int .i64) (.prod (.int .i64) (.prod (.int .i64) (.prod (.int .i64) (.prod (.list (.prod .str (.int .i64))) (.int .i64)))))) n, .fn (.func 32) [] []] => some ([], .int .i64 (idxRight_f  n)) | _ => none
theorem idxRight_eq  (n : List (den NodeT)) : acall tab fs_valid1 [] fns_idxRight 100 20 54 [.view [] NodeT n, .fn (.func 32) [] []] [] (fun o mm _ _ => resN (.any) mm o = .ret (.int .i64 (idxRight_f  n))) =
  (eqD n n (need (AV.fn (Fn.func 32) (@List.nil AV) (@List.nil AV) = AV.fn (Fn.func 32) (@List.nil AV) (@List.nil AV)) (eqI (lenI n) (lenI n) (eqI 0 0 (((0 : Int) =
    0 ∧ lenI n = lenI n) ∧ ((∀ (y : X_idxRight), (y.1 = n ∧ y.2.1 = lenI n) ∧ idxRight_f y.1 = -1 → AOut.ret (AV.int IntKind.i64 (-1)) = AOut.ret (AV.int IntKind.i64
    (idxRight_f n))) ∧ True) ∧ ∀ (y : X_idxRight), (y.1 = n ∧ y.2.1 = lenI n) ∧ y.2.2.2 = idxRight_f y.1 → AOut.ret (AV.int IntKind.i64 y.2.2.2) = AOut.ret (AV.int IntKind.i64
    (idxRight_f n))))))) := by kernel_rfl
theorem idxRight_ok : SpecOK Try.prog 54 (fspecS (pureN [.sl NodeT] idxRightS)) := pureN_ok (mkCall fsOK_valid1 specsOK_nil fns_idxRightOK) (.any) (fun vs w => Try.call54 vs w) fun args ps v h hp hw => by
  unfold idxRightS at h
  split at h
  · cases h
    rename_i n
    rw [idxRight_eq]
    refine ⟨?_⟩
    simp only [allP_cons, allP_nil, and_true] at hp
    simp only [wfAL, wfA, wfS, wfM, wfB, and_true, true_and, wfT_int, wfT_str, wfT_bool, wfT_prod] at hw
    simp only [simpsL, implies_true, forall_const, if_true, if_false, reduceCtorEq]
    (repeat' (first | with_reducible rfl | assumption | omega | trivial | (rintro y ⟨hk, hx⟩; simp_all; done) | refine ⟨?_, ?_⟩ | intro _))
  · cases h
noncomputable def FF_idxRight : FSpec := pureN [.sl NodeT] idxRightS
theorem FFok_idxRight : SpecOK Try.prog 54 (fspecS FF_idxRight) := idxRight_ok
noncomputable def fs_idxRight : FS := (54, FF_idxRight) :: fs_valid1
theorem fsOK_idxRight : FSOK Try.prog fs_idxRight := fsOK_cons FFok_idxRight fsOK_valid1
def validF (n : List (den NodeT)) : Bool := decide (lenI n ≠ 0) && decide (lenI n ≤ 300) && !(n.any nrightF) && decide (endF n 0 = lenI n) && !(deepF n)
noncomputable def validS : List AV → OV := fun args => match args with | [.view [] (.prod (.int .i64) (.prod (.int .i64) (.prod (.int .i64) (.prod (.int .i64) (.prod (.list (.prod .str (.int .i64))) (.int .i64)))))) n] => some ([], .bool (validF n)) | _ => none
theorem valid_eq (n : List (den NodeT)) : acall tab fs_idxRight [] fns 100 20 16 [.view [] NodeT n] [] (fun o mm _ _ => resN (.any) mm o = .ret (.bool (validF n))) =
  (ifB (selB (eqB (lenI n) 0) true (ltB 300 (lenI n))) (AOut.ret (AV.bool false) = AOut.ret (AV.bool (validF n))) (need (impB (notB (leB 0 (idxRight_f n))) (geZ 0))
    (need (impB (notB (leB 0 (idxRight_f n))) (smallL n)) (AOut.ret (AV.bool (selB (selB (notB (leB 0 (idxRight_f n))) (eqB (endF n 0) (lenI n)) false) (notB (deepF
    n)) false)) = AOut.ret (AV.bool (validF n)))))) := by kernel_rfl
theorem valid_ok : SpecOK Try.prog 16 (fspecS (pureN [.sl NodeT] validS)) := pureN_ok (mkCall fsOK_idxRight specsOK_nil fnsOK) (.any) (fun vs w => Try.call16 vs w) fun args ps v h hp hw => by
  unfold validS at h
  split at h
  · cases h
    rename_i n
    rw [valid_eq]
    refine ⟨?_⟩
    simp only [allP_cons, allP_nil, and_true] at hp
    simp only [wfAL, wfA, wfS, wfM, wfB, and_true, true_and, wfT_int, wfT_str, wfT_bool, wfT_prod] at hw
    simp only [simpsL, implies_true, forall_const, if_true, if_false, reduceCtorEq]
    have e := idxRight_any n
    have e2 : idxRight_p = nrightF := rfl
    rw [e2] at e
    have e3 : (!decide (0 ≤ idxRight_f n)) = !(n.any nrightF) := by rw [← e]; rfl
    refine ⟨fun h => ?_, fun h => ⟨fun _ => by omega, fun _ => ?_, ?_⟩⟩
    · simp only [validF]; grind
    · unfold smallL; omega
    · rw [e3]; simp only [validF]; grind
  · cases h
noncomputable def FF_valid : FSpec := pureN [.sl NodeT] validS
theorem FFok_valid : SpecOK Try.prog 16 (fspecS FF_valid) := valid_ok
noncomputable def fs_valid : FS := (16, FF_valid) :: fs_idxRight
theorem fsOK_valid : FSOK Try.prog fs_valid := fsOK_cons FFok_valid fsOK_idxRight
noncomputable def cloneTS : List AV → OV := fun args => match args with | [.view [] (.prod .str (.int .i64)) n] => some ([fits n], .view [] TermT n) | _ => none
theorem cloneT_eq (n : List (den TermT)) : acall tab fs_valid [] fns 100 20 62 [.view [] TermT n] [] (fun o mm _ _ => resN (.sl TermT) mm o = .ret (.view [] TermT n)) =
  (need (imp (lenI n = 0) (AOut.ret (AV.view (@List.nil Nat) TermT (@List.nil (den TermT))) = AOut.ret (AV.view (@List.nil Nat) TermT n))) (need (fitA (0 + lenI n))
    (AOut.ret (AV.view (@List.nil Nat) TermT (appL (@List.nil (den TermT)) n)) = AOut.ret (AV.view (@List.nil Nat) TermT n)))) := by kernel_rfl
theorem cloneT_ok : SpecOK Try.prog 62 (fspecS (pureN [.sl TermT] cloneTS)) := pureN_ok (mkCall fsOK_valid specsOK_nil fnsOK) (.sl TermT) (fun vs w => Try.call62 vs w) fun args ps v h hp hw => by
  unfold cloneTS at h
  split at h
  · cases h
    rename_i n
    rw [cloneT_eq]
    refine ⟨?_⟩
    simp only [allP_cons, allP_nil, and_true] at hp
    simp only [wfAL, wfA, wfS, wfM, wfB, and_true, true_and, wfT_int, wfT_str, wfT_bool, wfT_prod] at hw
    unfold fits at hp
    simp only [simpsL, implies_true, forall_const, if_true, if_false, reduceCtorEq]
    refine ⟨fun h => ?_, by unfold fitA; omega, rfl⟩
    have : n = [] := by cases n with | nil => rfl | cons a l => simp only [lenI, List.length_cons] at h; omega
    rw [this]
  · cases h
noncomputable def FF_cloneT : FSpec := pureN [.sl TermT] cloneTS
theorem FFok_cloneT : SpecOK Try.prog 62 (fspecS FF_cloneT) := cloneT_ok
noncomputable def fs_cloneT : FS := (62, FF_cloneT) :: fs_valid
theorem fsOK_cloneT : FSOK Try.prog fs_cloneT := fsOK_cons FFok_cloneT fsOK_valid
def eqTermsF (a b : List (den TermT)) : Bool := decide (a = b)
abbrev X_equalT := List (den TermT) × List (den TermT) × Int × Int × Bool
def sh_equalT : X_equalT → St := fun x => match x with | (a, b, len, i, r) => ⟨setL (rep .bad 26) [(0, .view [] TermT a), (1, .view [] TermT b), (12, .int .i64 len), (13, .int .i64 i)], [], [], []⟩
def shr_equalT : X_equalT → St := fun x => match x with | (a, b, len, i, r) => ⟨setL (rep .bad 26) [(0, .view [] TermT a), (1, .view [] TermT b), (12, .int .i64 len), (13, .int .i64 i), (4, .bool r)], [], [], []⟩
def sx_equalT : AExit → X_equalT → St := fun e => match e with | .ret => shr_equalT | _ => sh_equalT
def nx_equalT (σ : St) : X_equalT := (gV TermT σ 0, gV TermT σ 1, gI σ 12, gI σ 13, gB σ 4)
def Pre_equalT : X_equalT → Prop := fun x => match x with | (a, b, len, i, r) => i = 0 ∧ len = lenI a ∧ lenI a = lenI b
def E0_equalT : X_equalT → X_equalT → Prop := fun x y => match x, y with | (a0, b0, len0, i0, r0), (a, b, len, i, r) => (a = a0 ∧ b = b0 ∧ len = len0) ∧ (eqTermsF a b = true)
def R_equalT : X_equalT → X_equalT → Prop := fun x y => match x, y with | (a0, b0, len0, i0, r0), (a, b, len, i, r) => (a = a0 ∧ b = b0 ∧ len = len0) ∧ (r = eqTermsF a b)
def D_equalT : X_equalT → LEnds X_equalT := fun x => ⟨[(0, E0_equalT x)], R_equalT x⟩
noncomputable def S_equalT : Summ := summN sh_equalT sx_equalT nx_equalT Pre_equalT D_equalT
def Inv_equalT : X_equalT → X_equalT → Prop := fun x y => match x, y with | (a0, b0, len0, i0, r0), (a, b, len, i, r) => (a = a0 ∧ b = b0 ∧ len = len0) ∧ ((0 ≤ i ∧ i ≤ len) ∧ decide (a.drop i.toNat = b.drop i.toNat) = eqTermsF a b)
def M_equalT : X_equalT → X_equalT → Nat := fun x y => match x, y with | (a0, b0, len0, i0, r0), (a, b, len, i, r) => (len - i).toNat
theorem body_equalT (Inv : X_equalT → Prop) (meas : X_equalT → Nat) (nn : Nat) (EE0 RR : X_equalT → Prop) (a : List (den TermT)) (b : List (den TermT)) (len : Int) (i : Int) (r : Bool) : awp tab fs_cloneT (acall tab fs_cloneT [] fns 100 20) [] 100 (loopAt Try.f107 4) (bodyN sh_equalT sx_equalT nx_equalT Inv meas nn ⟨[(0, EE0)], RR⟩) (sh_equalT (a, b, len, i, r)) =
  (ifB (ltB i len) (need (inI i (lenI a)) (need (inI i (lenI b)) (ifB (notB (andB (seqB (nth TermT a i).fst (nth TermT b i).fst) (eqB (nth TermT a i).snd (nth TermT
    b i).snd))) (eqD a a (eqD b b (eqL false false (eqI len len (eqI i i (RR (a, b, len, i, false))))))) (eqD a a (eqD b b (eqI len len (eqI (addW IntKind.i64 i 1) (addW
    IntKind.i64 i 1) (Inv (a, b, len, addW IntKind.i64 i 1, false) ∧ meas (a, b, len, addW IntKind.i64 i 1, false) < nn)))))))) (eqD a a (eqD b b (eqI len len (eqI i
    i (EE0 (a, b, len, i, false))))))) := by kernel_rfl
theorem body_equalT_ok : ∀ x y, Pre_equalT x → Inv_equalT x y → wfS (sh_equalT y) → Hd (awp tab fs_cloneT (acall tab fs_cloneT [] fns 100 20) [] 100 (loopAt Try.f107 4) (bodyN sh_equalT sx_equalT nx_equalT (Inv_equalT x) (M_equalT x) (M_equalT x y) (D_equalT x)) (sh_equalT y)) := by
  rintro ⟨a0, b0, len0, i0, r0⟩ ⟨a, b, len, i, r⟩ hp hI hw
  obtain ⟨⟨rfl, rfl, rfl⟩, hI⟩ := hI
  have hw_a := wfL_view hw 0 rfl
  have hw_b := wfL_view hw 1 rfl
  have hw_len := wfL_int hw 12 rfl
  have hw_i := wfL_int hw 13 rfl
  have hp : i0 = 0 ∧ len = lenI a ∧ lenI a = lenI b := hp
  unfold D_equalT
  rw [body_equalT]
  refine ⟨?_⟩
  have hInv : ∀ (i : Int) (r : Bool), ((0 ≤ i ∧ i ≤ len) ∧ decide (a.drop i.toNat = b.drop i.toNat) = eqTermsF a b) → Inv_equalT (a, b, len, i0, r0) (a, b, len, i, r) := fun _ _ h => ⟨⟨rfl, rfl, rfl⟩, h⟩
  generalize hIe : Inv_equalT (a, b, len, i0, r0) = Inv at hInv ⊢
  have hMe : ∀ (i : Int) (r : Bool), M_equalT (a, b, len, i0, r0) (a, b, len, i, r) = (len - i).toNat := fun _ _ => rfl
  generalize M_equalT (a, b, len, i0, r0) = Me at hMe ⊢
  have hE0 : ∀ (i : Int) (r : Bool), (eqTermsF a b = true) → E0_equalT (a, b, len, i0, r0) (a, b, len, i, r) := fun _ _ h => ⟨⟨rfl, rfl, rfl⟩, h⟩
  generalize E0_equalT (a, b, len, i0, r0) = EE0 at hE0 ⊢
  have hR : ∀ (i : Int) (r : Bool), (r = eqTermsF a b) → R_equalT (a, b, len, i0, r0) (a, b, len, i, r) := fun _ _ h => ⟨⟨rfl, rfl, rfl⟩, h⟩
  generalize R_equalT (a, b, len, i0, r0) = RR at hR ⊢
  obtain ⟨hi, hI⟩ := hI
  obtain ⟨p1, rfl, p3⟩ := hp
  have hlen := wfT_len hw_a
  by_cases hlt : i < lenI a
  · rw [drop_nth (t := TermT) hi.1 hlt, drop_nth (t := TermT) hi.1 (by omega : i < lenI b)] at hI
    have ei : addW .i64 i 1 = i + 1 := addW64 (by omega) (by omega)
    have hin : inI i (lenI a) := ⟨hi.1, hlt⟩
    have hin2 : inI i (lenI b) := ⟨hi.1, by omega⟩
    obtain ⟨x1, x2, hx⟩ : ∃ (c : List UInt8) (d : Int), nth TermT a i = (c, d) := ⟨_, _, rfl⟩
    obtain ⟨y1, y2, hy⟩ : ∃ (c : List UInt8) (d : Int), nth TermT b i = (c, d) := ⟨_, _, rfl⟩
    simp only [hx, hy] at hI ⊢
    simp only [ltB_t.2 hlt, hin, hin2, ei, simpsL, implies_true, forall_const, if_true, if_false, reduceCtorEq]
    by_cases hc : x1 = y1 ∧ x2 = y2
    · obtain ⟨rfl, rfl⟩ := hc
      simp only [List.cons.injEq, true_and] at hI
      simp only [not_true, or_self, false_implies, true_and, true_implies]
      (repeat' (first | with_reducible rfl | assumption | omega | (apply Eq.symm; assumption) | (simp only [hMe]; omega) | (exact lenI_nn _) | trivial | (refine hInv _ ?_) | (refine hInv _ _ ?_) | (refine hInv _ _ _ ?_) | (refine hInv _ _ _ _ ?_) | (refine hE0 _ ?_) | (refine hE0 _ _ ?_) | (refine hE0 _ _ _ ?_) | (refine hE0 _ _ _ _ ?_) | (refine hR _ ?_) | (refine hR _ _ ?_) | (refine hR _ _ _ ?_) | (refine hR _ _ _ _ ?_) | refine ⟨?_, ?_⟩ | intro _))
    · have hf : false = eqTermsF a b := by
        rw [← hI]; symm; refine decide_eq_false fun e => hc ?_
        injection e with e1 e2
        injection e1 with e3 e4
        exact ⟨e3, e4⟩
      refine ⟨fun _ => hR _ _ hf, fun h => absurd h hc⟩
  · rw [drop_all (by omega), drop_all (by omega)] at hI
    simp only [decide_true] at hI
    simp only [ltB_f.2 (Int.not_lt.1 hlt), simpsL, implies_true, forall_const, if_true, if_false, reduceCtorEq]
    (repeat' (first | with_reducible rfl | assumption | omega | (apply Eq.symm; assumption) | (simp only [hMe]; omega) | (exact lenI_nn _) | trivial | (refine hInv _ ?_) | (refine hInv _ _ ?_) | (refine hInv _ _ _ ?_) | (refine hInv _ _ _ _ ?_) | (refine hE0 _ ?_) | (refine hE0 _ _ ?_) | (refine hE0 _ _ _ ?_) | (refine hE0 _ _ _ _ ?_) | (refine hR _ ?_) | (refine hR _ _ ?_) | (refine hR _ _ _ ?_) | (refine hR _ _ _ _ ?_) | refine ⟨?_, ?_⟩ | intro _))
theorem summ_equalT : SummOK Try.prog (loopAt Try.f107 4) S_equalT :=
  summN_ok (L := []) (fuel := 100) tabOK fsOK_cloneT (mkCall fsOK_cloneT specsOK_nil fnsOK) (fun C => mkDraw fsOK_cloneT (mkCall fsOK_cloneT specsOK_nil fnsOK) C) loopsOK_nil Inv_equalT M_equalT
    (fun x hp hw => by
      obtain ⟨a, b, len, i, r⟩ := x
      have hp : i = 0 ∧ len = lenI a ∧ lenI a = lenI b := hp
      have hw_a := wfL_view hw 0 rfl
      have hw_b := wfL_view hw 1 rfl
      have hw_len := wfL_int hw 12 rfl
      have hw_i := wfL_int hw 13 rfl
      obtain ⟨rfl, rfl, h⟩ := hp
      exact ⟨⟨rfl, rfl, rfl⟩, ⟨by omega, lenI_nn _⟩, rfl⟩)
    (body_equalT_ok)
noncomputable def fns_equalT : Fns := (107, Try.f107, [(4, S_equalT)]) :: fns
theorem fn_equalT : FnOK Try.prog 107 Try.f107 [(4, S_equalT)] := fnOK_loops Try.func107 (fun vs w => Try.call107 vs w) (by kernel_rfl) fun k S h => by
  simp only [List.mem_cons, Prod.mk.injEq, List.not_mem_nil, or_false] at h
  obtain ⟨rfl, rfl⟩ := h
  exact summ_equalT
theorem fns_equalTOK : FnsOK Try.prog fns_equalT := fnsOK_cons fn_equalT fnsOK
noncomputable def equalTS : List AV → OV := fun args => match args with | [.view [] (.prod .str (.int .i64)) a, .view [] (.prod .str (.int .i64)) b] => some ([], .bool (eqTermsF a b)) | _ => none
theorem equalT_eq (a b : List (den TermT)) : acall tab fs_cloneT [] fns_equalT 100 20 107 [.view [] TermT a, .view [] TermT b] [] (fun o mm _ _ => resN (.any) mm o = .ret (.bool (eqTermsF a b))) =
  (ifB (notB (eqB (lenI a) (lenI b))) (AOut.ret (AV.bool false) = AOut.ret (AV.bool (eqTermsF a b))) (eqD a a (eqD b b (eqI (lenI a) (lenI a) (eqI 0 0 (((0 : Int) =
    0 ∧ lenI a = lenI a ∧ lenI a = lenI b) ∧ ((∀ (y : X_equalT), (y.1 = a ∧ y.2.1 = b ∧ y.2.2.1 = lenI a) ∧ eqTermsF y.1 y.2.1 = true → AOut.ret (AV.bool true) = AOut.ret
    (AV.bool (eqTermsF a b))) ∧ True) ∧ ∀ (y : X_equalT), (y.1 = a ∧ y.2.1 = b ∧ y.2.2.1 = lenI a) ∧ y.2.2.2.2 = eqTermsF y.1 y.2.1 → AOut.ret (AV.bool y.2.2.2.2) =
    AOut.ret (AV.bool (eqTermsF a b)))))))) := by kernel_rfl
theorem equalT_ok : SpecOK Try.prog 107 (fspecS (pureN [.sl TermT, .sl TermT] equalTS)) := pureN_ok (mkCall fsOK_cloneT specsOK_nil fns_equalTOK) (.any) (fun vs w => Try.call107 vs w) fun args ps v h hp hw => by
  unfold equalTS at h
  split at h
  · cases h
    rename_i a b
    rw [equalT_eq]
    refine ⟨?_⟩
    simp only [allP_cons, allP_nil, and_true] at hp
    simp only [wfAL, wfA, wfS, wfM, wfB, and_true, true_and, wfT_int, wfT_str, wfT_bool, wfT_prod] at hw
    simp only [simpsL, implies_true, forall_const, if_true, if_false, reduceCtorEq]
    refine ⟨fun h => ?_, fun h => ?_⟩
    · symm; exact decide_eq_false fun e => h (by rw [e])
    · (repeat' (first | with_reducible rfl | assumption | omega | trivial | (rintro y ⟨hk, hx⟩; simp_all; done) | refine ⟨?_, ?_⟩ | intro _))
  · cases h
noncomputable def FF_equalT : FSpec := pureN [.sl TermT, .sl TermT] equalTS
theorem FFok_equalT : SpecOK Try.prog 107 (fspecS FF_equalT) := equalT_ok
noncomputable def fs_equalT : FS := (107, FF_equalT) :: fs_cloneT
theorem fsOK_equalT : FSOK Try.prog fs_equalT := fsOK_cons FFok_equalT fsOK_cloneT
def sameNF (op nn fr to : Int) (ts : List (den TermT)) (num op' nn' fr' to' : Int) (ts' : List (den TermT)) (num' : Int) : Bool := decide (op = op') && decide (nn = nn') && decide (fr = fr') && decide (to = to') && decide (num = num') && eqTermsF ts ts'
def sameF (a b : List (den NodeT)) : Bool := decide (a = b)
noncomputable def same1S : List AV → OV := fun args => match args with | [.agg [.int .i64 op, .int .i64 nn, .int .i64 fr, .int .i64 to, .view [] (.prod .str (.int .i64)) ts, .int .i64 num], .agg [.int .i64 op', .int .i64 nn', .int .i64 fr', .int .i64 to', .view [] (.prod .str (.int .i64)) ts', .int .i64 num']] => some ([], .bool (sameNF op nn fr to ts num op' nn' fr' to' ts' num')) | _ => none
theorem same1_eq (op nn fr to : Int) (ts : List (den TermT)) (num op' nn' fr' to' : Int) (ts' : List (den TermT)) (num' : Int) : acall tab fs_equalT [] fns 100 20 106 [.agg [.int .i64 op, .int .i64 nn, .int .i64 fr, .int .i64 to, .view [] TermT ts, .int .i64 num], .agg [.int .i64 op', .int .i64 nn', .int .i64 fr', .int .i64 to', .view [] TermT ts', .int .i64 num']] [] (fun o mm _ _ => resN (.any) mm o = .ret (.bool (sameNF op nn fr to ts num op' nn' fr' to' ts' num'))) =
  (AOut.ret (AV.bool (selB (selB (selB (selB (selB (eqB op op') (eqB nn nn') false) (eqB fr fr') false) (eqB to to') false) (eqB num num') false) (eqTermsF ts ts')
    false)) = AOut.ret (AV.bool (sameNF op nn fr to ts num op' nn' fr' to' ts' num'))) := by kernel_rfl
theorem same1_ok : SpecOK Try.prog 106 (fspecS (pureN [] same1S)) := pureN_ok (mkCall fsOK_equalT specsOK_nil fnsOK) (.any) (fun vs w => Try.call106 vs w) fun args ps v h hp hw => by
  unfold same1S at h
  split at h
  · cases h
    rename_i op nn fr to ts num op' nn' fr' to' ts' num'
    rw [same1_eq]
    refine ⟨?_⟩
    simp only [allP_cons, allP_nil, and_true] at hp
    simp only [wfAL, wfA, wfS, wfM, wfB, and_true, true_and, wfT_int, wfT_str, wfT_bool, wfT_prod] at hw
    first | (simp only [simpsL, implies_true, forall_const, if_true, if_false, reduceCtorEq]; done) | (simp only [simpsL, implies_true, forall_const, if_true, if_false, reduceCtorEq]; rfl)
  · cases h
noncomputable def FF_same1 : FSpec := pureN [] same1S
theorem FFok_same1 : SpecOK Try.prog 106 (fspecS FF_same1) := same1_ok
noncomputable def fs_same1 : FS := (106, FF_same1) :: fs_equalT
theorem fsOK_same1 : FSOK Try.prog fs_same1 := fsOK_cons FFok_same1 fsOK_equalT
theorem sameN_iff {op nn fr to num op' nn' fr' to' num' : Int} {ts ts' : List (den TermT)} : sameNF op nn fr to ts num op' nn' fr' to' ts' num' = true ↔ (op, nn, fr, to, ts, num) = (op', nn', fr', to', ts', num') := by
  simp only [sameNF, eqTermsF, Bool.and_eq_true, decide_eq_true_eq, Prod.mk.injEq]
  constructor
  · rintro ⟨⟨⟨⟨⟨h1, h2⟩, h3⟩, h4⟩, h5⟩, h6⟩; exact ⟨h1, h2, h3, h4, h6, h5⟩
  · rintro ⟨h1, h2, h3, h4, h6, h5⟩; exact ⟨⟨⟨⟨⟨h1, h2⟩, h3⟩, h4⟩, h5⟩, h6⟩
abbrev X_equalN := List (den NodeT) × List (den NodeT) × Int × Int × Bool
def sh_equalN : X_equalN → St := fun x => match x with | (b, a, len, i, r) => ⟨setL (rep .bad 32) [(1, .view [] NodeT b), (15, .view [] NodeT a), (16, .int .i64 len), (17, .int .i64 i), (2, .fn (.func 106) [] [])], [], [0, 1], [0, 1]⟩
def shr_equalN : X_equalN → St := fun x => match x with | (b, a, len, i, r) => ⟨setL (rep .bad 32) [(1, .view [] NodeT b), (15, .view [] NodeT a), (16, .int .i64 len), (17, .int .i64 i), (6, .bool r), (2, .fn (.func 106) [] [])], [], [0, 1], [0, 1]⟩
def sx_equalN : AExit → X_equalN → St := fun e => match e with | .ret => shr_equalN | _ => sh_equalN
def nx_equalN (σ : St) : X_equalN := (gV NodeT σ 1, gV NodeT σ 15, gI σ 16, gI σ 17, gB σ 6)
def Pre_equalN : X_equalN → Prop := fun x => match x with | (b, a, len, i, r) => i = 0 ∧ len = lenI a ∧ lenI a = lenI b
def E0_equalN : X_equalN → X_equalN → Prop := fun x y => match x, y with | (b0, a0, len0, i0, r0), (b, a, len, i, r) => (a = a0 ∧ b = b0 ∧ len = len0) ∧ (sameF a b = true)
def R_equalN : X_equalN → X_equalN → Prop := fun x y => match x, y with | (b0, a0, len0, i0, r0), (b, a, len, i, r) => (a = a0 ∧ b = b0 ∧ len = len0) ∧ (r = sameF a b)
def D_equalN : X_equalN → LEnds X_equalN := fun x => ⟨[(0, E0_equalN x)], R_equalN x⟩
noncomputable def S_equalN : Summ := summN sh_equalN sx_equalN nx_equalN Pre_equalN D_equalN
def Inv_equalN : X_equalN → X_equalN → Prop := fun x y => match x, y with | (b0, a0, len0, i0, r0), (b, a, len, i, r) => (a = a0 ∧ b = b0 ∧ len = len0) ∧ ((0 ≤ i ∧ i ≤ len) ∧ decide (a.drop i.toNat = b.drop i.toNat) = sameF a b)
def M_equalN : X_equalN → X_equalN → Nat := fun x y => match x, y with | (b0, a0, len0, i0, r0), (b, a, len, i, r) => (len - i).toNat
theorem body_equalN (Inv : X_equalN → Prop) (meas : X_equalN → Nat) (nn : Nat) (EE0 RR : X_equalN → Prop) (b : List (den NodeT)) (a : List (den NodeT)) (len : Int) (i : Int) (r : Bool) : awp tab fs_same1 (acall tab fs_same1 [] fns 100 20) [] 100 (loopAt Try.f105 4) (bodyN sh_equalN sx_equalN nx_equalN Inv meas nn ⟨[(0, EE0)], RR⟩) (sh_equalN (b, a, len, i, r)) =
  (ifB (ltB i len) (need (inI i (lenI a)) (need (inI i (lenI b)) (ifB (notB (sameNF (nth NodeT a i).fst (nth NodeT a i).snd.fst (nth NodeT a i).snd.snd.fst (nth NodeT
    a i).snd.snd.snd.fst (nth NodeT a i).snd.snd.snd.snd.fst (nth NodeT a i).snd.snd.snd.snd.snd (nth NodeT b i).fst (nth NodeT b i).snd.fst (nth NodeT b i).snd.snd.fst
    (nth NodeT b i).snd.snd.snd.fst (nth NodeT b i).snd.snd.snd.snd.fst (nth NodeT b i).snd.snd.snd.snd.snd)) (eqD b b (need (AV.fn (Fn.func 106) (@List.nil AV) (@List.nil
    AV) = AV.fn (Fn.func 106) (@List.nil AV) (@List.nil AV)) (eqL false false (eqD a a (eqI len len (eqI i i (RR (b, a, len, i, false)))))))) (eqD b b (need (AV.fn (Fn.func
    106) (@List.nil AV) (@List.nil AV) = AV.fn (Fn.func 106) (@List.nil AV) (@List.nil AV)) (eqD a a (eqI len len (eqI (addW IntKind.i64 i 1) (addW IntKind.i64 i 1)
    (Inv (b, a, len, addW IntKind.i64 i 1, false) ∧ meas (b, a, len, addW IntKind.i64 i 1, false) < nn))))))))) (eqD b b (need (AV.fn (Fn.func 106) (@List.nil AV) (@List.nil
    AV) = AV.fn (Fn.func 106) (@List.nil AV) (@List.nil AV)) (eqD a a (eqI len len (eqI i i (EE0 (b, a, len, i, false)))))))) := by kernel_rfl
theorem body_equalN_ok : ∀ x y, Pre_equalN x → Inv_equalN x y → wfS (sh_equalN y) → Hd (awp tab fs_same1 (acall tab fs_same1 [] fns 100 20) [] 100 (loopAt Try.f105 4) (bodyN sh_equalN sx_equalN nx_equalN (Inv_equalN x) (M_equalN x) (M_equalN x y) (D_equalN x)) (sh_equalN y)) := by
  rintro ⟨b0, a0, len0, i0, r0⟩ ⟨b, a, len, i, r⟩ hp hI hw
  obtain ⟨⟨rfl, rfl, rfl⟩, hI⟩ := hI
  have hw_b := wfL_view hw 1 rfl
  have hw_a := wfL_view hw 15 rfl
  have hw_len := wfL_int hw 16 rfl
  have hw_i := wfL_int hw 17 rfl
  have hp : i0 = 0 ∧ len = lenI a ∧ lenI a = lenI b := hp
  unfold D_equalN
  rw [body_equalN]
  refine ⟨?_⟩
  have hInv : ∀ (i : Int) (r : Bool), ((0 ≤ i ∧ i ≤ len) ∧ decide (a.drop i.toNat = b.drop i.toNat) = sameF a b) → Inv_equalN (b, a, len, i0, r0) (b, a, len, i, r) := fun _ _ h => ⟨⟨rfl, rfl, rfl⟩, h⟩
  generalize hIe : Inv_equalN (b, a, len, i0, r0) = Inv at hInv ⊢
  have hMe : ∀ (i : Int) (r : Bool), M_equalN (b, a, len, i0, r0) (b, a, len, i, r) = (len - i).toNat := fun _ _ => rfl
  generalize M_equalN (b, a, len, i0, r0) = Me at hMe ⊢
  have hE0 : ∀ (i : Int) (r : Bool), (sameF a b = true) → E0_equalN (b, a, len, i0, r0) (b, a, len, i, r) := fun _ _ h => ⟨⟨rfl, rfl, rfl⟩, h⟩
  generalize E0_equalN (b, a, len, i0, r0) = EE0 at hE0 ⊢
  have hR : ∀ (i : Int) (r : Bool), (r = sameF a b) → R_equalN (b, a, len, i0, r0) (b, a, len, i, r) := fun _ _ h => ⟨⟨rfl, rfl, rfl⟩, h⟩
  generalize R_equalN (b, a, len, i0, r0) = RR at hR ⊢
  obtain ⟨hi, hI⟩ := hI
  obtain ⟨p1, rfl, p3⟩ := hp
  have hlen := wfT_len hw_a
  by_cases hlt : i < lenI a
  · rw [drop_nth (t := NodeT) hi.1 hlt, drop_nth (t := NodeT) hi.1 (by omega : i < lenI b)] at hI
    have ei : addW .i64 i 1 = i + 1 := addW64 (by omega) (by omega)
    have hin : inI i (lenI a) := ⟨hi.1, hlt⟩
    have hin2 : inI i (lenI b) := ⟨hi.1, by omega⟩
    obtain ⟨xo, xn, xf, xt, xs, xm, hx⟩ : ∃ (q1 q2 q3 q4 : Int) (ts : List (den TermT)) (m : Int), nth NodeT a i = (q1, q2, q3, q4, ts, m) := ⟨_, _, _, _, _, _, rfl⟩
    obtain ⟨yo, yn, yf, yt, ys, ym, hy⟩ : ∃ (q1 q2 q3 q4 : Int) (ts : List (den TermT)) (m : Int), nth NodeT b i = (q1, q2, q3, q4, ts, m) := ⟨_, _, _, _, _, _, rfl⟩
    simp only [hx, hy] at hI ⊢
    simp only [ltB_t.2 hlt, hin, hin2, ei, simpsL, implies_true, forall_const, if_true, if_false, reduceCtorEq]
    cases hc : sameNF xo xn xf xt xs xm yo yn yf yt ys ym with
    | true =>
      rw [sameN_iff.1 hc] at hI
      simp only [List.cons.injEq, true_and] at hI
      simp only [Bool.true_eq_false, false_implies, true_and, true_implies]
      (repeat' (first | with_reducible rfl | assumption | omega | (apply Eq.symm; assumption) | (simp only [hMe]; omega) | (exact lenI_nn _) | trivial | (refine hInv _ ?_) | (refine hInv _ _ ?_) | (refine hInv _ _ _ ?_) | (refine hInv _ _ _ _ ?_) | (refine hE0 _ ?_) | (refine hE0 _ _ ?_) | (refine hE0 _ _ _ ?_) | (refine hE0 _ _ _ _ ?_) | (refine hR _ ?_) | (refine hR _ _ ?_) | (refine hR _ _ _ ?_) | (refine hR _ _ _ _ ?_) | refine ⟨?_, ?_⟩ | intro _))
    | false =>
      have hf : false = sameF a b := by
        rw [← hI]; symm; refine decide_eq_false fun e => ?_
        injection e with e1 e2
        rw [sameN_iff.2 e1] at hc
        cases hc
      simp only [Bool.false_eq_true, false_implies, and_true, true_implies]
      exact hR _ _ hf
  · rw [drop_all (by omega), drop_all (by omega)] at hI
    simp only [decide_true] at hI
    simp only [ltB_f.2 (Int.not_lt.1 hlt), simpsL, implies_true, forall_const, if_true, if_false, reduceCtorEq]
    (repeat' (first | with_reducible rfl | assumption | omega | (apply Eq.symm; assumption) | (simp only [hMe]; omega) | (exact lenI_nn _) | trivial | (refine hInv _ ?_) | (refine hInv _ _ ?_) | (refine hInv _ _ _ ?_) | (refine hInv _ _ _ _ ?_) | (refine hE0 _ ?_) | (refine hE0 _ _ ?_) | (refine hE0 _ _ _ ?_) | (refine hE0 _ _ _ _ ?_) | (refine hR _ ?_) | (refine hR _ _ ?_) | (refine hR _ _ _ ?_) | (refine hR _ _ _ _ ?_) | refine ⟨?_, ?_⟩ | intro _))
theorem summ_equalN : SummOK Try.prog (loopAt Try.f105 4) S_equalN :=
  summN_ok (L := []) (fuel := 100) tabOK fsOK_same1 (mkCall fsOK_same1 specsOK_nil fnsOK) (fun C => mkDraw fsOK_same1 (mkCall fsOK_same1 specsOK_nil fnsOK) C) loopsOK_nil Inv_equalN M_equalN
    (fun x hp hw => by
      obtain ⟨b, a, len, i, r⟩ := x
      have hp : i = 0 ∧ len = lenI a ∧ lenI a = lenI b := hp
      have hw_b := wfL_view hw 1 rfl
      have hw_a := wfL_view hw 15 rfl
      have hw_len := wfL_int hw 16 rfl
      have hw_i := wfL_int hw 17 rfl
      obtain ⟨rfl, rfl, h⟩ := hp
      exact ⟨⟨rfl, rfl, rfl⟩, ⟨by omega, lenI_nn _⟩, rfl⟩)
    (body_equalN_ok)
noncomputable def fns_same_105 : Fns := (105, Try.f105, [(4, S_equalN)]) :: fns
theorem fn_same_105 : FnOK Try.prog 105 Try.f105 [(4, S_equalN)] := fnOK_loops Try.func105 (fun vs w => Try.call105 vs w) (by kernel_rfl) fun k S h => by
  simp only [List.mem_cons, Prod.mk.injEq, List.not_mem_nil, or_false] at h
  obtain ⟨rfl, rfl⟩ := h
  exact summ_equalN
theorem fns_same_105OK : FnsOK Try.prog fns_same_105 := fnsOK_cons fn_same_105 fnsOK
noncomputable def sameS : List AV → OV := fun args => match args with | [.view [] (.prod (.int .i64) (.prod (.int .i64) (.prod (.int .i64) (.prod (.int .i64) (.prod (.list (.prod .str (.int .i64))) (.int .i64)))))) a, .view [] (.prod (.int .i64) (.prod (.int .i64) (.prod (.int .i64) (.prod (.int .i64) (.prod (.list (.prod .str (.int .i64))) (.int .i64)))))) b] => some ([], .bool (sameF a b)) | _ => none
theorem same_eq (a b : List (den NodeT)) : acall tab fs_same1 [] fns_same_105 100 20 98 [.view [] NodeT a, .view [] NodeT b] [] (fun o mm _ _ => resN (.any) mm o = .ret (.bool (sameF a b))) =
  (ifB (notB (eqB (lenI a) (lenI b))) (AOut.ret (AV.bool false) = AOut.ret (AV.bool (sameF a b))) (eqD b b (need (AV.fn (Fn.func 106) (@List.nil AV) (@List.nil AV)
    = AV.fn (Fn.func 106) (@List.nil AV) (@List.nil AV)) (eqD a a (eqI (lenI a) (lenI a) (eqI 0 0 (((0 : Int) = 0 ∧ lenI a = lenI a ∧ lenI a = lenI b) ∧ ((∀ (y : X_equalN),
    (y.2.1 = a ∧ y.1 = b ∧ y.2.2.1 = lenI a) ∧ sameF y.2.1 y.1 = true → AOut.ret (AV.bool true) = AOut.ret (AV.bool (sameF a b))) ∧ True) ∧ ∀ (y : X_equalN), (y.2.1
    = a ∧ y.1 = b ∧ y.2.2.1 = lenI a) ∧ y.2.2.2.2 = sameF y.2.1 y.1 → AOut.ret (AV.bool y.2.2.2.2) = AOut.ret (AV.bool (sameF a b))))))))) := by kernel_rfl
theorem same_ok : SpecOK Try.prog 98 (fspecS (pureN [.sl NodeT, .sl NodeT] sameS)) := pureN_ok (mkCall fsOK_same1 specsOK_nil fns_same_105OK) (.any) (fun vs w => Try.call98 vs w) fun args ps v h hp hw => by
  unfold sameS at h
  split at h
  · cases h
    rename_i a b
    rw [same_eq]
    refine ⟨?_⟩
    simp only [allP_cons, allP_nil, and_true] at hp
    simp only [wfAL, wfA, wfS, wfM, wfB, and_true, true_and, wfT_int, wfT_str, wfT_bool, wfT_prod] at hw
    simp only [simpsL, implies_true, forall_const, if_true, if_false, reduceCtorEq]
    refine ⟨fun h => ?_, fun h => ?_⟩
    · symm; exact decide_eq_false fun e => h (by rw [e])
    · (repeat' (first | with_reducible rfl | assumption | omega | trivial | (rintro y ⟨hk, hx⟩; simp_all; done) | refine ⟨?_, ?_⟩ | intro _))
  · cases h
noncomputable def FF_same : FSpec := pureN [.sl NodeT, .sl NodeT] sameS
theorem FFok_same : SpecOK Try.prog 98 (fspecS FF_same) := same_ok
noncomputable def fs_same : FS := (98, FF_same) :: fs_same1
theorem fsOK_same : FSOK Try.prog fs_same := fsOK_cons FFok_same fsOK_same1
end Go.Proofs.Ytmdjpohmbkodeaa.Sx

