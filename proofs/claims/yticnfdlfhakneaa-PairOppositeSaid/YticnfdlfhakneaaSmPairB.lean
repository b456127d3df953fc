/- The pairs: what the functions with loops come to. -/
import Derived.Test.YticnfdlfhakneaaSmPairA
namespace Go.Proofs.Yticnfdlfhakneaa.Sx
open Go.RowKit
set_option maxRecDepth 100000
set_option maxHeartbeats 4000000
set_option linter.unusedVariables false
set_option linter.unusedSimpArgs false
def combG (out : Int) : List Int → Int
  | [] => out
  | x :: l => if x = 0 ∨ x = out then combG out l else if out = 0 then combG x l else 0
@[reducible] def SeenT : Ty := .prod (.int .i64) (.prod (.int .i64) (.int .i64))
def combineF (l : List Int) : Int := combG 0 l
def allF (i h al : Int) (l : List (den SeenT)) : List Int := l.map fun x => senseF i h x.1 x.2.1 al
def allRoom (h mv ls s : Int) (l : List (den SeenT)) : Bool := l.all fun x => roomF h mv ls s x.2.1 x.2.2
def safeF (h mv ls s : Int) (l : List (den SeenT)) : Bool := decide (apartF mv 0 ≤ max s 0) && allRoom h mv ls s l
def rIs (l : List (den SeenT)) : Prop := ∀ x ∈ l, rI x.1 ∧ rI x.2.1 ∧ rI x.2.2
def lenOK (n : Int) : Prop := n ≤ 1000000000000
abbrev X_combine := Int × List (den (.int .i64)) × Int × Int × Int
def sh_combine : X_combine → St := fun x => match x with | (out, l, n, i, r) => ⟨setL (rep .bad 26) [(3, .int .i64 out), (6, .view [] (.int .i64) l), (7, .int .i64 n), (8, .int .i64 i)], [], [], []⟩
def shr_combine : X_combine → St := fun x => match x with | (out, l, n, i, r) => ⟨setL (rep .bad 26) [(3, .int .i64 out), (6, .view [] (.int .i64) l), (7, .int .i64 n), (8, .int .i64 i), (2, .int .i64 r)], [], [], []⟩
def sx_combine : AExit → X_combine → St := fun e => match e with | .ret => shr_combine | _ => sh_combine
def nx_combine (σ : St) : X_combine := (gI σ 3, gV (.int .i64) σ 6, gI σ 7, gI σ 8, gI σ 2)
def Pre_combine : X_combine → Prop := fun x => match x with | (out, l, n, i, r) => i = 0 ∧ n = lenI l ∧ out = 0 ∧ lenOK n
def E0_combine : X_combine → X_combine → Prop := fun x y => match x, y with | (out0, l0, n0, i0, r0), (out, l, n, i, r) => (l = l0 ∧ n = n0) ∧ (out = combineF l)
def R_combine : X_combine → X_combine → Prop := fun x y => match x, y with | (out0, l0, n0, i0, r0), (out, l, n, i, r) => (l = l0 ∧ n = n0) ∧ (r = 0 ∧ combineF l = 0)
def D_combine : X_combine → LEnds X_combine := fun x => ⟨[(0, E0_combine x)], R_combine x⟩
noncomputable def S_combine : Summ := summN sh_combine sx_combine nx_combine Pre_combine D_combine
def Inv_combine : X_combine → X_combine → Prop := fun x y => match x, y with | (out0, l0, n0, i0, r0), (out, l, n, i, r) => (l = l0 ∧ n = n0) ∧ ((0 ≤ i ∧ i ≤ n) ∧ combG out (l.drop i.toNat) = combineF l)
def M_combine : X_combine → X_combine → Nat := fun x y => match x, y with | (out0, l0, n0, i0, r0), (out, l, n, i, r) => (n - i).toNat
theorem body_combine (Inv : X_combine → Prop) (meas : X_combine → Nat) (nn : Nat) (EE0 RR : X_combine → Prop) (out : Int) (l : List (den (.int .i64))) (n : Int) (i : Int) (r : Int) : awp tab fs_gap (acall tab fs_gap specs_size fns 100 20) [] 100 (loopAt Try.f15 3) (bodyN sh_combine sx_combine nx_combine Inv meas nn ⟨[(0, EE0)], RR⟩) (sh_combine (out, l, n, i, r)) =
  (ifB (ltB i n) (need (inI i (lenI l)) (ifB (selB (eqB (nth (Ty.int IntKind.i64) l i) 0) true (eqB (nth (Ty.int IntKind.i64) l i) out)) (eqI out out (eqD l l (eqI
    n n (eqI (addW IntKind.i64 i 1) (addW IntKind.i64 i 1) (Inv (out, l, n, addW IntKind.i64 i 1, 0) ∧ meas (out, l, n, addW IntKind.i64 i 1, 0) < nn))))) (ifB (eqB
    out 0) (eqI (nth (Ty.int IntKind.i64) l i) (nth (Ty.int IntKind.i64) l i) (eqD l l (eqI n n (eqI (addW IntKind.i64 i 1) (addW IntKind.i64 i 1) (Inv (nth (Ty.int
    IntKind.i64) l i, l, n, addW IntKind.i64 i 1, 0) ∧ meas (nth (Ty.int IntKind.i64) l i, l, n, addW IntKind.i64 i 1, 0) < nn))))) (eqI 0 0 (eqI out out (eqD l l (eqI
    n n (eqI i i (RR (out, l, n, i, 0)))))))))) (eqI out out (eqD l l (eqI n n (eqI i i (EE0 (out, l, n, i, 0))))))) := by kernel_rfl
theorem body_combine_ok : ∀ x y, Pre_combine x → Inv_combine x y → awp tab fs_gap (acall tab fs_gap specs_size fns 100 20) [] 100 (loopAt Try.f15 3) (bodyN sh_combine sx_combine nx_combine (Inv_combine x) (M_combine x) (M_combine x y) (D_combine x)) (sh_combine y) := by
  rintro ⟨out0, l0, n0, i0, r0⟩ ⟨out, l, n, i, r⟩ hp hI
  obtain ⟨⟨rfl, rfl⟩, hI⟩ := hI
  have hp : i0 = 0 ∧ n = lenI l ∧ out0 = 0 ∧ lenOK n := hp
  unfold D_combine
  rw [body_combine]
  have hInv : ∀ (out : Int) (i : Int) (r : Int), ((0 ≤ i ∧ i ≤ n) ∧ combG out (l.drop i.toNat) = combineF l) → Inv_combine (out0, l, n, i0, r0) (out, l, n, i, r) := fun _ _ _ h => ⟨⟨rfl, rfl⟩, h⟩
  generalize hIe : Inv_combine (out0, l, n, i0, r0) = Inv at hInv ⊢
  have hMe : ∀ (out : Int) (i : Int) (r : Int), M_combine (out0, l, n, i0, r0) (out, l, n, i, r) = (n - i).toNat := fun _ _ _ => rfl
  generalize M_combine (out0, l, n, i0, r0) = Me at hMe ⊢
  have hE0 : ∀ (out : Int) (i : Int) (r : Int), (out = combineF l) → E0_combine (out0, l, n, i0, r0) (out, l, n, i, r) := fun _ _ _ h => ⟨⟨rfl, rfl⟩, h⟩
  generalize E0_combine (out0, l, n, i0, r0) = EE0 at hE0 ⊢
  have hR : ∀ (out : Int) (i : Int) (r : Int), (r = 0 ∧ combineF l = 0) → R_combine (out0, l, n, i0, r0) (out, l, n, i, r) := fun _ _ _ h => ⟨⟨rfl, rfl⟩, h⟩
  generalize R_combine (out0, l, n, i0, r0) = RR at hR ⊢
  obtain ⟨hi, hI⟩ := hI
  obtain ⟨p1, rfl, p3, p4⟩ := hp
  unfold lenOK at p4
  by_cases hlt : i < lenI l
  · rw [drop_nth (t := .int .i64) hi.1 hlt] at hI
    have ei : addW .i64 i 1 = i + 1 := addW64 (by omega) (by omega)
    rw [ltB_t.2 hlt]
    simp only [need_def, appL_def, ifB_def, impB_def, selB_f, selB_t, selI_def, selX_def, notB_def, andB_def, orB_def, beqB_def, ltB_def, leB_def, eqB_def, seqB_def, eqI_def, eqL_def, eqS_def, eqD_def, eqT_def, imp_def, inI_def, nzI_def, geZ_def, ret_bool, ret_int, Bool.and_eq_true, Bool.or_eq_true, Bool.not_eq_true', Bool.not_eq_false', decide_eq_true_eq, decide_eq_false_iff_not, Bool.and_eq_false_iff, Bool.or_eq_false_iff, Int.not_lt, Int.not_le, true_and, and_true, implies_true, Bool.false_eq_true, Bool.true_eq_false, false_implies, forall_const, reduceCtorEq, if_true, if_false, true_implies, hMe, ei]
    simp only [combG] at hI
    refine ⟨⟨hi.1, hlt⟩, fun h => ⟨hInv _ _ _ ⟨by omega, ?_⟩, by omega⟩, fun h => ⟨fun h2 => ⟨hInv _ _ _ ⟨by omega, ?_⟩, by omega⟩, fun h2 => hR _ _ _ ⟨rfl, ?_⟩⟩⟩
    · rw [if_pos h] at hI; exact hI
    · rw [if_neg (by omega), if_pos h2] at hI; exact hI
    · rw [if_neg (by omega), if_neg h2] at hI; exact hI.symm
  · rw [drop_all (by omega)] at hI
    rw [ltB_f.2 (Int.not_lt.1 hlt)]
    simp only [need_def, appL_def, ifB_def, impB_def, selB_f, selB_t, selI_def, selX_def, notB_def, andB_def, orB_def, beqB_def, ltB_def, leB_def, eqB_def, seqB_def, eqI_def, eqL_def, eqS_def, eqD_def, eqT_def, imp_def, inI_def, nzI_def, geZ_def, ret_bool, ret_int, Bool.and_eq_true, Bool.or_eq_true, Bool.not_eq_true', Bool.not_eq_false', decide_eq_true_eq, decide_eq_false_iff_not, Bool.and_eq_false_iff, Bool.or_eq_false_iff, Int.not_lt, Int.not_le, true_and, and_true, implies_true, Bool.false_eq_true, Bool.true_eq_false, false_implies, forall_const, reduceCtorEq, if_true, if_false, true_implies]
    exact hE0 _ _ _ hI
theorem summ_combine : SummOK Try.prog (loopAt Try.f15 3) S_combine :=
  summN_ok (L := []) (fuel := 100) tabOK fsOK_gap (mkCall fsOK_gap specsOK_size fnsOK) (fun C => mkDraw fsOK_gap (mkCall fsOK_gap specsOK_size fnsOK) C) loopsOK_nil Inv_combine M_combine
    (fun x hp => by
      obtain ⟨out, l, n, i, r⟩ := x
      have hp : i = 0 ∧ n = lenI l ∧ out = 0 ∧ lenOK n := hp
      obtain ⟨rfl, rfl, rfl, h⟩ := hp
      exact ⟨⟨rfl, rfl⟩, ⟨by omega, lenI_nn _⟩, rfl⟩)
    body_combine_ok
abbrev X_all := Int × List (den (.int .i64)) × List (den SeenT) × Int × Int × Int × Int × Int
def sh_all : X_all → St := fun x => match x with | (al, out, l, n, i, oi, oh, oa) => ⟨setL (rep .bad 25) [(1, .int .i64 al), (10, .view [] SeenT l), (11, .int .i64 n), (12, .int .i64 i), (3, .ptr 0 0), (7, .own 1)], [.var [.int .i64 oi, .int .i64 oh, .int .i64 oa], .row 3 (.int .i64) out []], [1, 2, 3], [1, 2, 3]⟩
def sx_all : AExit → X_all → St := fun _ => sh_all
def nx_all (σ : St) : X_all := (gI σ 1, rV (.int .i64) σ 1, gV SeenT σ 10, gI σ 11, gI σ 12, cI σ 0 0, cI σ 0 1, cI σ 0 2)
def Pre_all : X_all → Prop := fun x => match x with | (al, out, l, n, i, oi, oh, oa) => i = 0 ∧ n = lenI l ∧ out = [] ∧ lenOK n ∧ rI oh ∧ rI al ∧ rIs l
def E0_all : X_all → X_all → Prop := fun x y => match x, y with | (al0, out0, l0, n0, i0, oi0, oh0, oa0), (al, out, l, n, i, oi, oh, oa) => (al = al0 ∧ l = l0 ∧ n = n0 ∧ oi = oi0 ∧ oh = oh0 ∧ oa = oa0) ∧ (out = allF oi oh al l)
def R_all : X_all → X_all → Prop := fun x y => match x, y with | (al0, out0, l0, n0, i0, oi0, oh0, oa0), (al, out, l, n, i, oi, oh, oa) => (al = al0 ∧ l = l0 ∧ n = n0 ∧ oi = oi0 ∧ oh = oh0 ∧ oa = oa0) ∧ (False)
def D_all : X_all → LEnds X_all := fun x => ⟨[(0, E0_all x)], R_all x⟩
noncomputable def S_all : Summ := summN sh_all sx_all nx_all Pre_all D_all
def Inv_all : X_all → X_all → Prop := fun x y => match x, y with | (al0, out0, l0, n0, i0, oi0, oh0, oa0), (al, out, l, n, i, oi, oh, oa) => (al = al0 ∧ l = l0 ∧ n = n0 ∧ oi = oi0 ∧ oh = oh0 ∧ oa = oa0) ∧ ((0 ≤ i ∧ i ≤ n) ∧ out = allF oi oh al (l.take i.toNat))
def M_all : X_all → X_all → Nat := fun x y => match x, y with | (al0, out0, l0, n0, i0, oi0, oh0, oa0), (al, out, l, n, i, oi, oh, oa) => (n - i).toNat
theorem body_all (Inv : X_all → Prop) (meas : X_all → Nat) (nn : Nat) (EE0 RR : X_all → Prop) (al : Int) (out : List (den (.int .i64))) (l : List (den SeenT)) (n : Int) (i : Int) (oi : Int) (oh : Int) (oa : Int) : awp tab fs_gap (acall tab fs_gap specs_size fns 100 20) [] 100 (loopAt Try.f16 3) (bodyN sh_all sx_all nx_all Inv meas nn ⟨[(0, EE0)], RR⟩) (sh_all (al, out, l, n, i, oi, oh, oa)) =
  (ifB (ltB i n) (need (inI i (lenI l)) (need (rI oh) (need (rI (nth SeenT l i).snd.fst) (need (rI al) (need (fitA (lenI out + lenI (senseF oi oh (nth SeenT l i).fst
    (nth SeenT l i).snd.fst al :: @List.nil (den (Ty.int IntKind.i64))))) (eqI al al (eqD l l (eqI n n (eqI (addW IntKind.i64 i 1) (addW IntKind.i64 i 1) (eqI oi oi
    (eqI oh oh (eqI oa oa (eqD (appL out (senseF oi oh (nth SeenT l i).fst (nth SeenT l i).snd.fst al :: @List.nil (den (Ty.int IntKind.i64)))) (appL out (senseF oi
    oh (nth SeenT l i).fst (nth SeenT l i).snd.fst al :: @List.nil (den (Ty.int IntKind.i64)))) (Inv (al, appL out (senseF oi oh (nth SeenT l i).fst (nth SeenT l i).snd.fst
    al :: @List.nil (den (Ty.int IntKind.i64))), l, n, addW IntKind.i64 i 1, oi, oh, oa) ∧ meas (al, appL out (senseF oi oh (nth SeenT l i).fst (nth SeenT l i).snd.fst
    al :: @List.nil (den (Ty.int IntKind.i64))), l, n, addW IntKind.i64 i 1, oi, oh, oa) < nn)))))))))))))) (eqI al al (eqD l l (eqI n n (eqI i i (eqI oi oi (eqI oh
    oh (eqI oa oa (eqD out out (EE0 (al, out, l, n, i, oi, oh, oa))))))))))) := by kernel_rfl
theorem body_all_ok : ∀ x y, Pre_all x → Inv_all x y → awp tab fs_gap (acall tab fs_gap specs_size fns 100 20) [] 100 (loopAt Try.f16 3) (bodyN sh_all sx_all nx_all (Inv_all x) (M_all x) (M_all x y) (D_all x)) (sh_all y) := by
  rintro ⟨al0, out0, l0, n0, i0, oi0, oh0, oa0⟩ ⟨al, out, l, n, i, oi, oh, oa⟩ hp hI
  obtain ⟨⟨rfl, rfl, rfl, rfl, rfl, rfl⟩, hI⟩ := hI
  have hp : i0 = 0 ∧ n = lenI l ∧ out0 = [] ∧ lenOK n ∧ rI oh ∧ rI al ∧ rIs l := hp
  unfold D_all
  rw [body_all]
  have hInv : ∀ (out : List (den (.int .i64))) (i : Int), ((0 ≤ i ∧ i ≤ n) ∧ out = allF oi oh al (l.take i.toNat)) → Inv_all (al, out0, l, n, i0, oi, oh, oa) (al, out, l, n, i, oi, oh, oa) := fun _ _ h => ⟨⟨rfl, rfl, rfl, rfl, rfl, rfl⟩, h⟩
  generalize hIe : Inv_all (al, out0, l, n, i0, oi, oh, oa) = Inv at hInv ⊢
  have hMe : ∀ (out : List (den (.int .i64))) (i : Int), M_all (al, out0, l, n, i0, oi, oh, oa) (al, out, l, n, i, oi, oh, oa) = (n - i).toNat := fun _ _ => rfl
  generalize M_all (al, out0, l, n, i0, oi, oh, oa) = Me at hMe ⊢
  have hE0 : ∀ (out : List (den (.int .i64))) (i : Int), (out = allF oi oh al l) → E0_all (al, out0, l, n, i0, oi, oh, oa) (al, out, l, n, i, oi, oh, oa) := fun _ _ h => ⟨⟨rfl, rfl, rfl, rfl, rfl, rfl⟩, h⟩
  generalize E0_all (al, out0, l, n, i0, oi, oh, oa) = EE0 at hE0 ⊢
  have hR : ∀ (out : List (den (.int .i64))) (i : Int), (False) → R_all (al, out0, l, n, i0, oi, oh, oa) (al, out, l, n, i, oi, oh, oa) := fun _ _ h => ⟨⟨rfl, rfl, rfl, rfl, rfl, rfl⟩, h⟩
  generalize R_all (al, out0, l, n, i0, oi, oh, oa) = RR at hR ⊢
  obtain ⟨hi, hI⟩ := hI
  obtain ⟨p1, rfl, p3, p4, p5, p6, p7⟩ := hp
  unfold lenOK at p4
  by_cases hlt : i < lenI l
  · have ei : addW .i64 i 1 = i + 1 := addW64 (by omega) (by omega)
    have hx := p7 _ (nth_mem (t := SeenT) hi.1 hlt)
    have ho : lenI out = i := by rw [hI]; unfold allF lenI at *; simp; omega
    rw [ltB_t.2 hlt]
    simp only [need_def, appL_def, ifB_def, impB_def, selB_f, selB_t, selI_def, selX_def, notB_def, andB_def, orB_def, beqB_def, ltB_def, leB_def, eqB_def, seqB_def, eqI_def, eqL_def, eqS_def, eqD_def, eqT_def, imp_def, inI_def, nzI_def, geZ_def, ret_bool, ret_int, Bool.and_eq_true, Bool.or_eq_true, Bool.not_eq_true', Bool.not_eq_false', decide_eq_true_eq, decide_eq_false_iff_not, Bool.and_eq_false_iff, Bool.or_eq_false_iff, Int.not_lt, Int.not_le, true_and, and_true, implies_true, Bool.false_eq_true, Bool.true_eq_false, false_implies, forall_const, reduceCtorEq, if_true, if_false, true_implies, hMe, ei, p5, p6, hx.1, hx.2.1, ho, lenI_one, fitA]
    refine ⟨⟨hi.1, hlt⟩, by omega, hInv _ _ ⟨by omega, ?_⟩, by omega⟩
    rw [hI, take_nth (t := SeenT) hi.1 hlt]
    simp [allF]
  · rw [take_all (by omega)] at hI
    rw [ltB_f.2 (Int.not_lt.1 hlt)]
    simp only [need_def, appL_def, ifB_def, impB_def, selB_f, selB_t, selI_def, selX_def, notB_def, andB_def, orB_def, beqB_def, ltB_def, leB_def, eqB_def, seqB_def, eqI_def, eqL_def, eqS_def, eqD_def, eqT_def, imp_def, inI_def, nzI_def, geZ_def, ret_bool, ret_int, Bool.and_eq_true, Bool.or_eq_true, Bool.not_eq_true', Bool.not_eq_false', decide_eq_true_eq, decide_eq_false_iff_not, Bool.and_eq_false_iff, Bool.or_eq_false_iff, Int.not_lt, Int.not_le, true_and, and_true, implies_true, Bool.false_eq_true, Bool.true_eq_false, false_implies, forall_const, reduceCtorEq, if_true, if_false, true_implies]
    exact hE0 _ _ hI
theorem summ_all : SummOK Try.prog (loopAt Try.f16 3) S_all :=
  summN_ok (L := []) (fuel := 100) tabOK fsOK_gap (mkCall fsOK_gap specsOK_size fnsOK) (fun C => mkDraw fsOK_gap (mkCall fsOK_gap specsOK_size fnsOK) C) loopsOK_nil Inv_all M_all
    (fun x hp => by
      obtain ⟨al, out, l, n, i, oi, oh, oa⟩ := x
      have hp : i = 0 ∧ n = lenI l ∧ out = [] ∧ lenOK n ∧ rI oh ∧ rI al ∧ rIs l := hp
      obtain ⟨rfl, rfl, rfl, h⟩ := hp
      exact ⟨⟨rfl, rfl, rfl, rfl, rfl, rfl⟩, ⟨by omega, lenI_nn _⟩, rfl⟩)
    body_all_ok
abbrev X_safe := Int × Int × Int × List (den SeenT) × Int × Int × Int × Int × Int × Bool
def sh_safe : X_safe → St := fun x => match x with | (mv, ls, s, l, n, i, oi, oh, oa, r) => ⟨setL (rep .bad 33) [(1, .int .i64 mv), (2, .int .i64 ls), (3, .int .i64 s), (19, .view [] SeenT l), (20, .int .i64 n), (21, .int .i64 i), (5, .ptr 0 0)], [.var [.int .i64 oi, .int .i64 oh, .int .i64 oa]], [1], [1]⟩
def shr_safe : X_safe → St := fun x => match x with | (mv, ls, s, l, n, i, oi, oh, oa, r) => ⟨setL (rep .bad 33) [(1, .int .i64 mv), (2, .int .i64 ls), (3, .int .i64 s), (19, .view [] SeenT l), (20, .int .i64 n), (21, .int .i64 i), (10, .bool r), (5, .ptr 0 0)], [.var [.int .i64 oi, .int .i64 oh, .int .i64 oa]], [1], [1]⟩
def sx_safe : AExit → X_safe → St := fun e => match e with | .ret => shr_safe | _ => sh_safe
def nx_safe (σ : St) : X_safe := (gI σ 1, gI σ 2, gI σ 3, gV SeenT σ 19, gI σ 20, gI σ 21, cI σ 0 0, cI σ 0 1, cI σ 0 2, gB σ 10)
def Pre_safe : X_safe → Prop := fun x => match x with | (mv, ls, s, l, n, i, oi, oh, oa, r) => i = 0 ∧ n = lenI l ∧ lenOK n ∧ rI oh ∧ rI mv ∧ rI ls ∧ rI s ∧ rIs l
def E0_safe : X_safe → X_safe → Prop := fun x y => match x, y with | (mv0, ls0, s0, l0, n0, i0, oi0, oh0, oa0, r0), (mv, ls, s, l, n, i, oi, oh, oa, r) => (mv = mv0 ∧ ls = ls0 ∧ s = s0 ∧ l = l0 ∧ n = n0 ∧ oi = oi0 ∧ oh = oh0 ∧ oa = oa0) ∧ (allRoom oh mv ls s l = true)
def R_safe : X_safe → X_safe → Prop := fun x y => match x, y with | (mv0, ls0, s0, l0, n0, i0, oi0, oh0, oa0, r0), (mv, ls, s, l, n, i, oi, oh, oa, r) => (mv = mv0 ∧ ls = ls0 ∧ s = s0 ∧ l = l0 ∧ n = n0 ∧ oi = oi0 ∧ oh = oh0 ∧ oa = oa0) ∧ (r = false ∧ allRoom oh mv ls s l = false)
def D_safe : X_safe → LEnds X_safe := fun x => ⟨[(0, E0_safe x)], R_safe x⟩
noncomputable def S_safe : Summ := summN sh_safe sx_safe nx_safe Pre_safe D_safe
def Inv_safe : X_safe → X_safe → Prop := fun x y => match x, y with | (mv0, ls0, s0, l0, n0, i0, oi0, oh0, oa0, r0), (mv, ls, s, l, n, i, oi, oh, oa, r) => (mv = mv0 ∧ ls = ls0 ∧ s = s0 ∧ l = l0 ∧ n = n0 ∧ oi = oi0 ∧ oh = oh0 ∧ oa = oa0) ∧ ((0 ≤ i ∧ i ≤ n) ∧ allRoom oh mv ls s (l.take i.toNat) = true)
def M_safe : X_safe → X_safe → Nat := fun x y => match x, y with | (mv0, ls0, s0, l0, n0, i0, oi0, oh0, oa0, r0), (mv, ls, s, l, n, i, oi, oh, oa, r) => (n - i).toNat
theorem body_safe (Inv : X_safe → Prop) (meas : X_safe → Nat) (nn : Nat) (EE0 RR : X_safe → Prop) (mv : Int) (ls : Int) (s : Int) (l : List (den SeenT)) (n : Int) (i : Int) (oi : Int) (oh : Int) (oa : Int) (r : Bool) : awp tab fs_gap (acall tab fs_gap specs_size fns 100 20) [] 100 (loopAt Try.f13 4) (bodyN sh_safe sx_safe nx_safe Inv meas nn ⟨[(0, EE0)], RR⟩) (sh_safe (mv, ls, s, l, n, i, oi, oh, oa, r)) =
  (ifB (ltB i n) (need (inI i (lenI l)) (need (rI oh) (need (rI mv) (need (rI ls) (need (rI s) (need (rI (nth SeenT l i).snd.fst) (need (rI (nth SeenT l i).snd.snd)
    (ifB (notB (roomF oh mv ls s (nth SeenT l i).snd.fst (nth SeenT l i).snd.snd)) (eqI mv mv (eqI ls ls (eqI s s (eqL false false (eqD l l (eqI n n (eqI i i (eqI oi
    oi (eqI oh oh (eqI oa oa (RR (mv, ls, s, l, n, i, oi, oh, oa, false)))))))))))) (eqI mv mv (eqI ls ls (eqI s s (eqD l l (eqI n n (eqI (addW IntKind.i64 i 1) (addW
    IntKind.i64 i 1) (eqI oi oi (eqI oh oh (eqI oa oa (Inv (mv, ls, s, l, n, addW IntKind.i64 i 1, oi, oh, oa, false) ∧ meas (mv, ls, s, l, n, addW IntKind.i64 i 1,
    oi, oh, oa, false) < nn)))))))))))))))))) (eqI mv mv (eqI ls ls (eqI s s (eqD l l (eqI n n (eqI i i (eqI oi oi (eqI oh oh (eqI oa oa (EE0 (mv, ls, s, l, n, i, oi,
    oh, oa, false)))))))))))) := by kernel_rfl
theorem body_safe_ok : ∀ x y, Pre_safe x → Inv_safe x y → awp tab fs_gap (acall tab fs_gap specs_size fns 100 20) [] 100 (loopAt Try.f13 4) (bodyN sh_safe sx_safe nx_safe (Inv_safe x) (M_safe x) (M_safe x y) (D_safe x)) (sh_safe y) := by
  rintro ⟨mv0, ls0, s0, l0, n0, i0, oi0, oh0, oa0, r0⟩ ⟨mv, ls, s, l, n, i, oi, oh, oa, r⟩ hp hI
  obtain ⟨⟨rfl, rfl, rfl, rfl, rfl, rfl, rfl, rfl⟩, hI⟩ := hI
  have hp : i0 = 0 ∧ n = lenI l ∧ lenOK n ∧ rI oh ∧ rI mv ∧ rI ls ∧ rI s ∧ rIs l := hp
  unfold D_safe
  rw [body_safe]
  have hInv : ∀ (i : Int) (r : Bool), ((0 ≤ i ∧ i ≤ n) ∧ allRoom oh mv ls s (l.take i.toNat) = true) → Inv_safe (mv, ls, s, l, n, i0, oi, oh, oa, r0) (mv, ls, s, l, n, i, oi, oh, oa, r) := fun _ _ h => ⟨⟨rfl, rfl, rfl, rfl, rfl, rfl, rfl, rfl⟩, h⟩
  generalize hIe : Inv_safe (mv, ls, s, l, n, i0, oi, oh, oa, r0) = Inv at hInv ⊢
  have hMe : ∀ (i : Int) (r : Bool), M_safe (mv, ls, s, l, n, i0, oi, oh, oa, r0) (mv, ls, s, l, n, i, oi, oh, oa, r) = (n - i).toNat := fun _ _ => rfl
  generalize M_safe (mv, ls, s, l, n, i0, oi, oh, oa, r0) = Me at hMe ⊢
  have hE0 : ∀ (i : Int) (r : Bool), (allRoom oh mv ls s l = true) → E0_safe (mv, ls, s, l, n, i0, oi, oh, oa, r0) (mv, ls, s, l, n, i, oi, oh, oa, r) := fun _ _ h => ⟨⟨rfl, rfl, rfl, rfl, rfl, rfl, rfl, rfl⟩, h⟩
  generalize E0_safe (mv, ls, s, l, n, i0, oi, oh, oa, r0) = EE0 at hE0 ⊢
  have hR : ∀ (i : Int) (r : Bool), (r = false ∧ allRoom oh mv ls s l = false) → R_safe (mv, ls, s, l, n, i0, oi, oh, oa, r0) (mv, ls, s, l, n, i, oi, oh, oa, r) := fun _ _ h => ⟨⟨rfl, rfl, rfl, rfl, rfl, rfl, rfl, rfl⟩, h⟩
  generalize R_safe (mv, ls, s, l, n, i0, oi, oh, oa, r0) = RR at hR ⊢
  obtain ⟨hi, hI⟩ := hI
  obtain ⟨p1, rfl, p4, p5, p6, p7, p8, p9⟩ := hp
  unfold lenOK at p4
  by_cases hlt : i < lenI l
  · have ei : addW .i64 i 1 = i + 1 := addW64 (by omega) (by omega)
    have hx := p9 _ (nth_mem (t := SeenT) hi.1 hlt)
    rw [ltB_t.2 hlt]
    simp only [need_def, appL_def, ifB_def, impB_def, selB_f, selB_t, selI_def, selX_def, notB_def, andB_def, orB_def, beqB_def, ltB_def, leB_def, eqB_def, seqB_def, eqI_def, eqL_def, eqS_def, eqD_def, eqT_def, imp_def, inI_def, nzI_def, geZ_def, ret_bool, ret_int, Bool.and_eq_true, Bool.or_eq_true, Bool.not_eq_true', Bool.not_eq_false', decide_eq_true_eq, decide_eq_false_iff_not, Bool.and_eq_false_iff, Bool.or_eq_false_iff, Int.not_lt, Int.not_le, true_and, and_true, implies_true, Bool.false_eq_true, Bool.true_eq_false, false_implies, forall_const, reduceCtorEq, if_true, if_false, true_implies, hMe, ei, p5, p6, p7, p8, hx.2.1, hx.2.2]
    refine ⟨⟨hi.1, hlt⟩, fun h => hR _ _ ⟨rfl, ?_⟩, fun h => ⟨hInv _ _ ⟨by omega, ?_⟩, by omega⟩⟩
    · unfold allRoom; rw [List.all_eq_false]; exact ⟨_, nth_mem (t := SeenT) hi.1 hlt, by rw [h]; simp⟩
    · rw [take_nth (t := SeenT) hi.1 hlt]
      unfold allRoom at hI ⊢
      simp [hI, h]
  · rw [take_all (by omega)] at hI
    rw [ltB_f.2 (Int.not_lt.1 hlt)]
    simp only [need_def, appL_def, ifB_def, impB_def, selB_f, selB_t, selI_def, selX_def, notB_def, andB_def, orB_def, beqB_def, ltB_def, leB_def, eqB_def, seqB_def, eqI_def, eqL_def, eqS_def, eqD_def, eqT_def, imp_def, inI_def, nzI_def, geZ_def, ret_bool, ret_int, Bool.and_eq_true, Bool.or_eq_true, Bool.not_eq_true', Bool.not_eq_false', decide_eq_true_eq, decide_eq_false_iff_not, Bool.and_eq_false_iff, Bool.or_eq_false_iff, Int.not_lt, Int.not_le, true_and, and_true, implies_true, Bool.false_eq_true, Bool.true_eq_false, false_implies, forall_const, reduceCtorEq, if_true, if_false, true_implies]
    exact hE0 _ _ hI
theorem summ_safe : SummOK Try.prog (loopAt Try.f13 4) S_safe :=
  summN_ok (L := []) (fuel := 100) tabOK fsOK_gap (mkCall fsOK_gap specsOK_size fnsOK) (fun C => mkDraw fsOK_gap (mkCall fsOK_gap specsOK_size fnsOK) C) loopsOK_nil Inv_safe M_safe
    (fun x hp => by
      obtain ⟨mv, ls, s, l, n, i, oi, oh, oa, r⟩ := x
      have hp : i = 0 ∧ n = lenI l ∧ lenOK n ∧ rI oh ∧ rI mv ∧ rI ls ∧ rI s ∧ rIs l := hp
      obtain ⟨rfl, rfl, h⟩ := hp
      exact ⟨⟨rfl, rfl, rfl, rfl, rfl, rfl, rfl, rfl⟩, ⟨by omega, lenI_nn _⟩, rfl⟩)
    body_safe_ok
noncomputable def fns_combine : Fns := (15, Try.f15, [(3, S_combine)]) :: fns
theorem fn_combine : FnOK Try.prog 15 Try.f15 [(3, S_combine)] := fnOK_loops Try.func15 (fun vs w => Try.call15 vs w) (by kernel_rfl) fun k S h => by
  simp only [List.mem_cons, Prod.mk.injEq, List.not_mem_nil, or_false] at h
  obtain ⟨rfl, rfl⟩ := h
  exact summ_combine
theorem fns_combineOK : FnsOK Try.prog fns_combine := fnsOK_cons fn_combine fnsOK
noncomputable def combineS : List AV → OV := fun args => match args with | [.view [] (.int .i64) l] => some ([lenOK (lenI l)], .int .i64 (combineF l)) | _ => none
theorem combine_eq (l : List Int) : acall tab fs_gap specs_size fns_combine 100 20 15 [.view [] (.int .i64) l] [] (fun o mm _ _ => resN (.any) mm o = .ret (.int .i64 (combineF l))) =
  (eqI 0 0 (eqD l l (eqI (lenI l) (lenI l) (eqI 0 0 (((0 : Int) = 0 ∧ lenI l = lenI l ∧ (0 : Int) = 0 ∧ lenOK (lenI l)) ∧ ((∀ (y : X_combine), (y.2.1 = l ∧ y.2.2.1
    = lenI l) ∧ y.1 = combineF y.2.1 → AOut.ret (AV.int IntKind.i64 y.1) = AOut.ret (AV.int IntKind.i64 (combineF l))) ∧ True) ∧ ∀ (y : X_combine), (y.2.1 = l ∧ y.2.2.1
    = lenI l) ∧ y.2.2.2.2 = 0 ∧ combineF y.2.1 = 0 → AOut.ret (AV.int IntKind.i64 y.2.2.2.2) = AOut.ret (AV.int IntKind.i64 (combineF l))))))) := by kernel_rfl
theorem combine_ok : SpecOK Try.prog 15 (fspecS (pureN [.sl (.int .i64)] combineS)) := pureN_ok (mkCall fsOK_gap specsOK_size fns_combineOK) (.any) (fun vs w => Try.call15 vs w) fun args ps v h hp => by
  unfold combineS at h
  split at h
  · cases h
    rename_i l
    rw [combine_eq]
    simp only [allP_cons, allP_nil, and_true] at hp
    simp only [need_def, appL_def, ifB_def, impB_def, selB_f, selB_t, selI_def, selX_def, notB_def, andB_def, orB_def, beqB_def, ltB_def, leB_def, eqB_def, seqB_def, eqI_def, eqL_def, eqS_def, eqD_def, eqT_def, imp_def, inI_def, nzI_def, geZ_def, ret_bool, ret_int, Bool.and_eq_true, Bool.or_eq_true, Bool.not_eq_true', Bool.not_eq_false', decide_eq_true_eq, decide_eq_false_iff_not, Bool.and_eq_false_iff, Bool.or_eq_false_iff, Int.not_lt, Int.not_le, true_and, and_true, implies_true, Bool.false_eq_true, Bool.true_eq_false, false_implies, forall_const, reduceCtorEq, if_true, if_false, true_implies, hp]
    refine ⟨?_, ?_⟩
    · rintro ⟨o, l', n, i, r⟩ ⟨hk, h⟩; dsimp only at hk h ⊢; obtain ⟨rfl, rfl⟩ := hk; exact h
    · rintro ⟨o, l', n, i, r⟩ ⟨hk, h⟩; dsimp only at hk h ⊢; obtain ⟨rfl, rfl⟩ := hk; exact h.1.trans h.2.symm
  · cases h
noncomputable def fs_combine : FS := (15, pureN [.sl (.int .i64)] combineS) :: fs_gap
theorem fsOK_combine : FSOK Try.prog fs_combine := fsOK_cons combine_ok fsOK_gap
noncomputable def fns_all : Fns := (16, Try.f16, [(3, S_all)]) :: fns
theorem fn_all : FnOK Try.prog 16 Try.f16 [(3, S_all)] := fnOK_loops Try.func16 (fun vs w => Try.call16 vs w) (by kernel_rfl) fun k S h => by
  simp only [List.mem_cons, Prod.mk.injEq, List.not_mem_nil, or_false] at h
  obtain ⟨rfl, rfl⟩ := h
  exact summ_all
theorem fns_allOK : FnsOK Try.prog fns_all := fnsOK_cons fn_all fnsOK
noncomputable def allS : List AV → OV := fun args => match args with | [.agg [.int .i64 i, .int .i64 h, .int .i64 g], .int .i64 al, .view [] (.prod (.int .i64) (.prod (.int .i64) (.int .i64))) l] => some ([lenOK (lenI l), rI h, rI al, rIs l], .view [] (.int .i64) (allF i h al l)) | _ => none
theorem all_eq (i h g al : Int) (l : List (den SeenT)) : acall tab fs_combine specs_size fns_all 100 20 16 [.agg [.int .i64 i, .int .i64 h, .int .i64 g], .int .i64 al, .view [] SeenT l] [] (fun o mm _ _ => resN (.sl (.int .i64)) mm o = .ret (.view [] (.int .i64) (allF i h al l))) =
  (eqI al al (eqD l l (eqI (lenI l) (lenI l) (eqI 0 0 (eqI i i (eqI h h (eqI g g (eqD (@List.nil (den (Ty.int IntKind.i64))) (@List.nil (den (Ty.int IntKind.i64)))
    (((0 : Int) = 0 ∧ lenI l = lenI l ∧ @List.nil (den (Ty.int IntKind.i64)) = @List.nil (den (Ty.int IntKind.i64)) ∧ lenOK (lenI l) ∧ rI h ∧ rI al ∧ rIs l) ∧ ((∀ (y
    : X_all), (y.1 = al ∧ y.2.2.1 = l ∧ y.2.2.2.1 = lenI l ∧ y.2.2.2.2.2.1 = i ∧ y.2.2.2.2.2.2.1 = h ∧ y.2.2.2.2.2.2.2 = g) ∧ y.2.1 = allF y.2.2.2.2.2.1 y.2.2.2.2.2.2.1
    y.1 y.2.2.1 → AOut.ret (AV.view (@List.nil Nat) (Ty.int IntKind.i64) y.2.1) = AOut.ret (AV.view (@List.nil Nat) (Ty.int IntKind.i64) (allF i h al l))) ∧ True) ∧
    ∀ (y : X_all), (y.1 = al ∧ y.2.2.1 = l ∧ y.2.2.2.1 = lenI l ∧ y.2.2.2.2.2.1 = i ∧ y.2.2.2.2.2.2.1 = h ∧ y.2.2.2.2.2.2.2 = g) ∧ False → AOut.ret AV.bad = AOut.ret
    (AV.view (@List.nil Nat) (Ty.int IntKind.i64) (allF i h al l))))))))))) := by kernel_rfl
theorem all_ok : SpecOK Try.prog 16 (fspecS (pureN [.any, .any, .sl SeenT] allS)) := pureN_ok (mkCall fsOK_combine specsOK_size fns_allOK) (.sl (.int .i64)) (fun vs w => Try.call16 vs w) fun args ps v h hp => by
  unfold allS at h
  split at h
  · cases h
    rename_i i h g al l
    rw [all_eq]
    simp only [allP_cons, allP_nil, and_true] at hp
    simp only [need_def, appL_def, ifB_def, impB_def, selB_f, selB_t, selI_def, selX_def, notB_def, andB_def, orB_def, beqB_def, ltB_def, leB_def, eqB_def, seqB_def, eqI_def, eqL_def, eqS_def, eqD_def, eqT_def, imp_def, inI_def, nzI_def, geZ_def, ret_bool, ret_int, Bool.and_eq_true, Bool.or_eq_true, Bool.not_eq_true', Bool.not_eq_false', decide_eq_true_eq, decide_eq_false_iff_not, Bool.and_eq_false_iff, Bool.or_eq_false_iff, Int.not_lt, Int.not_le, true_and, and_true, implies_true, Bool.false_eq_true, Bool.true_eq_false, false_implies, forall_const, reduceCtorEq, if_true, if_false, true_implies, hp]
    refine ⟨?_, ?_⟩
    · rintro ⟨al', o, l', n, i, oi, oh, oa⟩ ⟨hk, h⟩; dsimp only at hk h ⊢; obtain ⟨rfl, rfl, rfl, rfl, rfl, rfl⟩ := hk; rw [h]
    · rintro ⟨al', o, l', n, i, oi, oh, oa⟩ ⟨_, h⟩; exact h.elim
  · cases h
noncomputable def fs_all : FS := (16, pureN [.any, .any, .sl SeenT] allS) :: fs_combine
theorem fsOK_all : FSOK Try.prog fs_all := fsOK_cons all_ok fsOK_combine
noncomputable def fns_safe : Fns := (13, Try.f13, [(4, S_safe)]) :: fns
theorem fn_safe : FnOK Try.prog 13 Try.f13 [(4, S_safe)] := fnOK_loops Try.func13 (fun vs w => Try.call13 vs w) (by kernel_rfl) fun k S h => by
  simp only [List.mem_cons, Prod.mk.injEq, List.not_mem_nil, or_false] at h
  obtain ⟨rfl, rfl⟩ := h
  exact summ_safe
theorem fns_safeOK : FnsOK Try.prog fns_safe := fnsOK_cons fn_safe fnsOK
noncomputable def safeS : List AV → OV := fun args => match args with | [.agg [.int .i64 i, .int .i64 h, .int .i64 g], .int .i64 mv, .int .i64 ls, .int .i64 s, .view [] (.prod (.int .i64) (.prod (.int .i64) (.int .i64))) l] => some ([lenOK (lenI l), rI h, rI mv, rI ls, rI s, rIs l], .bool (safeF h mv ls s l)) | _ => none
theorem safe_eq (i h g mv ls s : Int) (l : List (den SeenT)) : acall tab fs_all specs_size fns_safe 100 20 13 [.agg [.int .i64 i, .int .i64 h, .int .i64 g], .int .i64 mv, .int .i64 ls, .int .i64 s, .view [] SeenT l] [] (fun o mm _ _ => resN (.any) mm o = .ret (.bool (safeF h mv ls s l))) =
  (need (rI mv) (need (rI 0) (ifB (ltB (wrI IntKind.u64 (selI (ltB s 0) 0 s)) (apartF mv 0)) (AOut.ret (AV.bool false) = AOut.ret (AV.bool (safeF h mv ls s l))) (eqI
    mv mv (eqI ls ls (eqI s s (eqD l l (eqI (lenI l) (lenI l) (eqI 0 0 (eqI i i (eqI h h (eqI g g (((0 : Int) = 0 ∧ lenI l = lenI l ∧ lenOK (lenI l) ∧ rI h ∧ rI mv ∧
    rI ls ∧ rI s ∧ rIs l) ∧ ((∀ (y : X_safe), (y.1 = mv ∧ y.2.1 = ls ∧ y.2.2.1 = s ∧ y.2.2.2.1 = l ∧ y.2.2.2.2.1 = lenI l ∧ y.2.2.2.2.2.2.1 = i ∧ y.2.2.2.2.2.2.2.1 =
    h ∧ y.2.2.2.2.2.2.2.2.1 = g) ∧ allRoom y.2.2.2.2.2.2.2.1 y.1 y.2.1 y.2.2.1 y.2.2.2.1 = true → AOut.ret (AV.bool true) = AOut.ret (AV.bool (safeF h mv ls s l))) ∧
    True) ∧ ∀ (y : X_safe), (y.1 = mv ∧ y.2.1 = ls ∧ y.2.2.1 = s ∧ y.2.2.2.1 = l ∧ y.2.2.2.2.1 = lenI l ∧ y.2.2.2.2.2.2.1 = i ∧ y.2.2.2.2.2.2.2.1 = h ∧ y.2.2.2.2.2.2.2.2.1
    = g) ∧ y.2.2.2.2.2.2.2.2.2 = false ∧ allRoom y.2.2.2.2.2.2.2.1 y.1 y.2.1 y.2.2.1 y.2.2.2.1 = false → AOut.ret (AV.bool y.2.2.2.2.2.2.2.2.2) = AOut.ret (AV.bool (safeF
    h mv ls s l))))))))))))))) := by kernel_rfl
theorem safe_ok : SpecOK Try.prog 13 (fspecS (pureN [.any, .any, .any, .any, .sl SeenT] safeS)) := pureN_ok (mkCall fsOK_all specsOK_size fns_safeOK) (.any) (fun vs w => Try.call13 vs w) fun args ps v h hp => by
  unfold safeS at h
  split at h
  · cases h
    rename_i i h g mv ls s l
    rw [safe_eq]
    simp only [allP_cons, allP_nil, and_true] at hp
    obtain ⟨h1, h2, h3, h4, h5, h6⟩ := hp
    have r0 : rI 0 := by unfold rI; omega
    have hs : wrI .u64 (selI (ltB s 0) 0 s) = max s 0 := max_val h5
    simp only [hs]
    simp only [need_def, appL_def, ifB_def, impB_def, selB_f, selB_t, selI_def, selX_def, notB_def, andB_def, orB_def, beqB_def, ltB_def, leB_def, eqB_def, seqB_def, eqI_def, eqL_def, eqS_def, eqD_def, eqT_def, imp_def, inI_def, nzI_def, geZ_def, ret_bool, ret_int, Bool.and_eq_true, Bool.or_eq_true, Bool.not_eq_true', Bool.not_eq_false', decide_eq_true_eq, decide_eq_false_iff_not, Bool.and_eq_false_iff, Bool.or_eq_false_iff, Int.not_lt, Int.not_le, true_and, and_true, implies_true, Bool.false_eq_true, Bool.true_eq_false, false_implies, forall_const, reduceCtorEq, if_true, if_false, true_implies, h1, h2, h3, h4, h5, h6, r0]
    refine ⟨fun h => ?_, fun h => ⟨?_, ?_⟩⟩
    · simp only [safeF]; rw [decide_eq_false (by omega)]; rfl
    · rintro ⟨a1, a2, a3, l', n, i, oi, oh, oa, r⟩ ⟨hk, hh⟩; dsimp only at hk hh ⊢; obtain ⟨rfl, rfl, rfl, rfl, rfl, rfl, rfl, rfl⟩ := hk
      simp only [safeF]; rw [decide_eq_true (by omega)]; exact hh.symm
    · rintro ⟨a1, a2, a3, l', n, i, oi, oh, oa, r⟩ ⟨hk, hh⟩; dsimp only at hk hh ⊢; obtain ⟨rfl, rfl, rfl, rfl, rfl, rfl, rfl, rfl⟩ := hk
      simp only [safeF]; rw [hh.2]; simp [hh.1]
  · cases h
noncomputable def fs_safe : FS := (13, pureN [.any, .any, .any, .any, .sl SeenT] safeS) :: fs_all
theorem fsOK_safe : FSOK Try.prog fs_safe := fsOK_cons safe_ok fsOK_all
noncomputable def aliveS : List AV → OV := fun args => match args with | [] => some ([], .bool true) | _ => none
theorem alive_eq  : acall tab fs_safe specs_size fns 100 20 9 [] [] (fun o mm _ _ => resN (.any) mm o = .ret (.bool true)) =
  (need (rI 10) (need (rI 12) (need (rI 5) (ifB (eqB (senseF 1 10 2 12 5) 2) (need (lenOK (lenI (1 :: 0 :: 1 :: @List.nil (den (Ty.int IntKind.i64))))) (need (impB
    (eqB (combineF (1 :: 0 :: 1 :: @List.nil (den (Ty.int IntKind.i64)))) 1) (rI 0)) (need (impB (eqB (combineF (1 :: 0 :: 1 :: @List.nil (den (Ty.int IntKind.i64))))
    1) (rI 10)) (need (impB (eqB (combineF (1 :: 0 :: 1 :: @List.nil (den (Ty.int IntKind.i64)))) 1) (rI 3)) (need (impB (eqB (combineF (1 :: 0 :: 1 :: @List.nil (den
    (Ty.int IntKind.i64)))) 1) (rI 2)) (ifB (selB (eqB (combineF (1 :: 0 :: 1 :: @List.nil (den (Ty.int IntKind.i64)))) 1) (eqB (gapF 0 10 3 2) 4) false) (need (lenOK
    (lenI ((1, 10, 0) :: (1, 10, 0) :: @List.nil (den SeenT)))) (need (rI 10) (need (rI 5) (need (rIs ((1, 10, 0) :: (1, 10, 0) :: @List.nil (den SeenT))) (ifB (eqB
    (lenI (allF 1 10 5 ((1, 10, 0) :: (1, 10, 0) :: @List.nil (den SeenT)))) 2) (need (lenOK (lenI ((2, 10, 1) :: @List.nil (den SeenT)))) (need (rI 0) (need (rI 1)
    (need (rI 3) (need (rI 2) (need (rIs ((2, 10, 1) :: @List.nil (den SeenT))) (AOut.ret (AV.bool (safeF 0 1 3 2 ((2, 10, 1) :: @List.nil (den SeenT)))) = AOut.ret
    (AV.bool true)))))))) (need (eqT false false) (AOut.ret (AV.bool false) = AOut.ret (AV.bool true)))))))) (need (eqT false false) (need (eqT false false) (AOut.ret
    (AV.bool false) = AOut.ret (AV.bool true)))))))))) (need (eqT false false) (need True (need True (need True (need True (need (eqT false false) (need (eqT false false)
    (AOut.ret (AV.bool false) = AOut.ret (AV.bool true))))))))))))) := by kernel_rfl
theorem alive_ok : SpecOK Try.prog 9 (fspecS (pureN [] aliveS)) := pureN_ok (mkCall fsOK_safe specsOK_size fnsOK) (.any) (fun vs w => Try.call9 vs w) fun args ps v h hp => by
  unfold aliveS at h
  split at h
  · cases h
    rw [alive_eq]
    simp only [allP_cons, allP_nil, and_true] at hp
    have e1 : combineF [1, 0, 1] = 1 := by simp [combineF, combG]
    have e2 : senseF 1 10 2 12 5 = 2 := by decide
    have e3 : gapF 0 10 3 2 = 4 := by decide
    have e4 : lenI (allF 1 10 5 [(1, 10, 0), (1, 10, 0)]) = 2 := rfl
    have e5 : safeF 0 1 3 2 [(2, 10, 1)] = true := by decide
    simp only [e1, e2, e3, e4, e5, need_def, appL_def, ifB_def, impB_def, selB_f, selB_t, selI_def, selX_def, notB_def, andB_def, orB_def, beqB_def, ltB_def, leB_def, eqB_def, seqB_def, eqI_def, eqL_def, eqS_def, eqD_def, eqT_def, imp_def, inI_def, nzI_def, geZ_def, ret_bool, ret_int, Bool.and_eq_true, Bool.or_eq_true, Bool.not_eq_true', Bool.not_eq_false', decide_eq_true_eq, decide_eq_false_iff_not, Bool.and_eq_false_iff, Bool.or_eq_false_iff, Int.not_lt, Int.not_le, true_and, and_true, implies_true, Bool.false_eq_true, Bool.true_eq_false, false_implies, forall_const, reduceCtorEq, if_true, if_false, true_implies, eq_self]
    simp [rI, rIs, lenOK, lenI]
  · cases h
noncomputable def fs_alive : FS := (9, pureN [] aliveS) :: fs_safe
theorem fsOK_alive : FSOK Try.prog fs_alive := fsOK_cons alive_ok fsOK_safe
end Go.Proofs.Yticnfdlfhakneaa.Sx

