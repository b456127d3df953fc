/- Ytgifbceiaibejaa: the law RingUps returns true for every input, and its arguments read as they did: no condition. -/
import Derived.Test.YtgifbceiaibejaaRows
import Derived.Test.YtgifbceiaibejaaSxV
import Derived.Test.YtgifbceiaibejaaSmRingC
import Derived.HandedShaped
namespace Go.Proofs.Ytgifbceiaibejaa
open Go.ChangeShapes Go.WideShapes Go.ChangeAt Go.RowKit Sx
set_option maxRecDepth 100000
set_option linter.unusedVariables false
set_option linter.unusedSimpArgs false
set_option maxHeartbeats 4000000

theorem smin {a b : Int} : selI (ltB b a) b a = min a b := by simp only [selI_def, ltB_def, decide_eq_true_eq]; split <;> omega
theorem smax {a b : Int} : selI (ltB a b) b a = max a b := by simp only [selI_def, ltB_def, decide_eq_true_eq]; split <;> omega
theorem up_one {most now v : Int} (h : 0 ≤ now ∧ now ≤ most) : upF most now (v :: @List.nil (den (.int .i64))) = min (now + max v 0) most := by
  unfold upF
  simp only [reduceCtorEq, if_false, upG]
  split <;> omega
theorem up_none {most w : Int} : upF most w ((0 : Int) :: (-1 : Int) :: @List.nil (den (.int .i64))) = w := by
  unfold upF
  simp [upG]
theorem up_nil {most now : Int} (h : 0 ≤ now ∧ now ≤ most) : upF most now (@List.nil (den (.int .i64))) = min (now + 1) most := by
  unfold upF
  simp only [if_true, upG]
  omega
theorem eqB_self (a : Int) : eqB a a = true := eqB_t.2 rfl
abbrev X_ups := Int × List (den (.int .i64)) × Int × Int × Int × Int × Bool
def sh_ups : X_ups → St := fun x => match x with | (most, l, want, i, now, cmost, r) => ⟨setL (rep .bad 86) [(0, .int .i64 most), (1, .view [] (.int .i64) l), (7, .int .i64 want), (8, .int .i64 i), (5, .ptr 0 0)], [.var [.int .i64 now, .int .i64 cmost]], [0, 1, 2], [0, 1, 2]⟩
def shr_ups : X_ups → St := fun x => match x with | (most, l, want, i, now, cmost, r) => ⟨setL (rep .bad 86) [(0, .int .i64 most), (1, .view [] (.int .i64) l), (7, .int .i64 want), (8, .int .i64 i), (4, .bool r), (5, .ptr 0 0)], [.var [.int .i64 now, .int .i64 cmost]], [0, 1, 2], [0, 1, 2]⟩
def sx_ups : AExit → X_ups → St := fun e => match e with | .ret => shr_ups | _ => sh_ups
def nx_ups (σ : St) : X_ups := (gI σ 0, gV (.int .i64) σ 1, gI σ 7, gI σ 8, cI σ 0 0, cI σ 0 1, gB σ 4)
def Pre_ups : X_ups → Prop := fun x => match x with | (most, l, want, i, now, cmost, r) => i = 0 ∧ want = 0 ∧ now = 0 ∧ cmost = most ∧ (0 ≤ most ∧ most ≤ 1099511627776) ∧ lenI l ≤ 200
def E0_ups : X_ups → X_ups → Prop := fun x y => match x, y with | (most0, l0, want0, i0, now0, cmost0, r0), (most, l, want, i, now, cmost, r) => (most = most0 ∧ l = l0 ∧ cmost = cmost0) ∧ (now = want ∧ 0 ≤ want ∧ want ≤ most)
def R_ups : X_ups → X_ups → Prop := fun x y => match x, y with | (most0, l0, want0, i0, now0, cmost0, r0), (most, l, want, i, now, cmost, r) => (most = most0 ∧ l = l0 ∧ cmost = cmost0) ∧ (r = true)
def D_ups : X_ups → LEnds X_ups := fun x => ⟨[(0, E0_ups x)], R_ups x⟩
noncomputable def S_ups : Summ := summN sh_ups sx_ups nx_ups Pre_ups D_ups
def Inv_ups : X_ups → X_ups → Prop := fun x y => match x, y with | (most0, l0, want0, i0, now0, cmost0, r0), (most, l, want, i, now, cmost, r) => (most = most0 ∧ l = l0 ∧ cmost = cmost0) ∧ ((0 ≤ i ∧ i ≤ lenI l) ∧ now = want ∧ 0 ≤ want ∧ want ≤ most)
def M_ups : X_ups → X_ups → Nat := fun x y => match x, y with | (most0, l0, want0, i0, now0, cmost0, r0), (most, l, want, i, now, cmost, r) => (lenI l - i).toNat
theorem body_ups (Inv : X_ups → Prop) (meas : X_ups → Nat) (nn : Nat) (EE0 RR : X_ups → Prop) (most : Int) (l : List (den (.int .i64))) (want : Int) (i : Int) (now : Int) (cmost : Int) (r : Bool) : awp tab fs_alive (acall tab fs_alive specs_rup fns 100 20) [] 100 (loopAt Try.f7 10) (bodyN sh_ups sx_ups nx_ups Inv meas nn ⟨[(0, EE0)], RR⟩) (sh_ups (most, l, want, i, now, cmost, r)) =
  (ifB (ltB i (lenI l)) (need (inI i (lenI l)) (ifB (ltB 1099511627776 (nth (Ty.int IntKind.i64) l i)) (eqI most most (eqD l l (eqL true true (eqI want want (eqI i
    i (eqI now now (eqI cmost cmost (RR (most, l, want, i, now, cmost, true))))))))) (need (inI i (lenI l)) (need (inI i (lenI l)) (need (okN now cmost) (need (lenOK
    1) (ifB (notB (eqB (upF cmost now (nth (Ty.int IntKind.i64) l i :: @List.nil (den (Ty.int IntKind.i64)))) (selI (ltB most (addW IntKind.i64 want (selI (ltB (nth
    (Ty.int IntKind.i64) l i) 0) 0 (nth (Ty.int IntKind.i64) l i)))) most (addW IntKind.i64 want (selI (ltB (nth (Ty.int IntKind.i64) l i) 0) 0 (nth (Ty.int IntKind.i64)
    l i)))))) (need (eqT true true) (eqI most most (eqD l l (eqL false false (eqI (selI (ltB most (addW IntKind.i64 want (selI (ltB (nth (Ty.int IntKind.i64) l i) 0)
    0 (nth (Ty.int IntKind.i64) l i)))) most (addW IntKind.i64 want (selI (ltB (nth (Ty.int IntKind.i64) l i) 0) 0 (nth (Ty.int IntKind.i64) l i)))) (selI (ltB most
    (addW IntKind.i64 want (selI (ltB (nth (Ty.int IntKind.i64) l i) 0) 0 (nth (Ty.int IntKind.i64) l i)))) most (addW IntKind.i64 want (selI (ltB (nth (Ty.int IntKind.i64)
    l i) 0) 0 (nth (Ty.int IntKind.i64) l i)))) (eqI i i (eqI (upF cmost now (nth (Ty.int IntKind.i64) l i :: @List.nil (den (Ty.int IntKind.i64)))) (upF cmost now (nth
    (Ty.int IntKind.i64) l i :: @List.nil (den (Ty.int IntKind.i64)))) (eqI cmost cmost (RR (most, l, selI (ltB most (addW IntKind.i64 want (selI (ltB (nth (Ty.int IntKind.i64)
    l i) 0) 0 (nth (Ty.int IntKind.i64) l i)))) most (addW IntKind.i64 want (selI (ltB (nth (Ty.int IntKind.i64) l i) 0) 0 (nth (Ty.int IntKind.i64) l i))), i, upF cmost
    now (nth (Ty.int IntKind.i64) l i :: @List.nil (den (Ty.int IntKind.i64))), cmost, false)))))))))) (need (okN (upF cmost now (nth (Ty.int IntKind.i64) l i :: @List.nil
    (den (Ty.int IntKind.i64)))) cmost) (need (lenOK 2) (ifB (notB (eqB (upF cmost (upF cmost now (nth (Ty.int IntKind.i64) l i :: @List.nil (den (Ty.int IntKind.i64))))
    (0 :: -1 :: @List.nil (den (Ty.int IntKind.i64)))) (selI (ltB most (addW IntKind.i64 want (selI (ltB (nth (Ty.int IntKind.i64) l i) 0) 0 (nth (Ty.int IntKind.i64)
    l i)))) most (addW IntKind.i64 want (selI (ltB (nth (Ty.int IntKind.i64) l i) 0) 0 (nth (Ty.int IntKind.i64) l i)))))) (eqI most most (eqD l l (eqL false false (eqI
    (selI (ltB most (addW IntKind.i64 want (selI (ltB (nth (Ty.int IntKind.i64) l i) 0) 0 (nth (Ty.int IntKind.i64) l i)))) most (addW IntKind.i64 want (selI (ltB (nth
    (Ty.int IntKind.i64) l i) 0) 0 (nth (Ty.int IntKind.i64) l i)))) (selI (ltB most (addW IntKind.i64 want (selI (ltB (nth (Ty.int IntKind.i64) l i) 0) 0 (nth (Ty.int
    IntKind.i64) l i)))) most (addW IntKind.i64 want (selI (ltB (nth (Ty.int IntKind.i64) l i) 0) 0 (nth (Ty.int IntKind.i64) l i)))) (eqI i i (eqI (upF cmost (upF cmost
    now (nth (Ty.int IntKind.i64) l i :: @List.nil (den (Ty.int IntKind.i64)))) (0 :: -1 :: @List.nil (den (Ty.int IntKind.i64)))) (upF cmost (upF cmost now (nth (Ty.int
    IntKind.i64) l i :: @List.nil (den (Ty.int IntKind.i64)))) (0 :: -1 :: @List.nil (den (Ty.int IntKind.i64)))) (eqI cmost cmost (RR (most, l, selI (ltB most (addW
    IntKind.i64 want (selI (ltB (nth (Ty.int IntKind.i64) l i) 0) 0 (nth (Ty.int IntKind.i64) l i)))) most (addW IntKind.i64 want (selI (ltB (nth (Ty.int IntKind.i64)
    l i) 0) 0 (nth (Ty.int IntKind.i64) l i))), i, upF cmost (upF cmost now (nth (Ty.int IntKind.i64) l i :: @List.nil (den (Ty.int IntKind.i64)))) (0 :: -1 :: @List.nil
    (den (Ty.int IntKind.i64))), cmost, false))))))))) (eqI most most (eqD l l (eqI (selI (ltB most (addW IntKind.i64 want (selI (ltB (nth (Ty.int IntKind.i64) l i)
    0) 0 (nth (Ty.int IntKind.i64) l i)))) most (addW IntKind.i64 want (selI (ltB (nth (Ty.int IntKind.i64) l i) 0) 0 (nth (Ty.int IntKind.i64) l i)))) (selI (ltB most
    (addW IntKind.i64 want (selI (ltB (nth (Ty.int IntKind.i64) l i) 0) 0 (nth (Ty.int IntKind.i64) l i)))) most (addW IntKind.i64 want (selI (ltB (nth (Ty.int IntKind.i64)
    l i) 0) 0 (nth (Ty.int IntKind.i64) l i)))) (eqI (addW IntKind.i64 i 1) (addW IntKind.i64 i 1) (eqI (upF cmost (upF cmost now (nth (Ty.int IntKind.i64) l i :: @List.nil
    (den (Ty.int IntKind.i64)))) (0 :: -1 :: @List.nil (den (Ty.int IntKind.i64)))) (upF cmost (upF cmost now (nth (Ty.int IntKind.i64) l i :: @List.nil (den (Ty.int
    IntKind.i64)))) (0 :: -1 :: @List.nil (den (Ty.int IntKind.i64)))) (eqI cmost cmost (Inv (most, l, selI (ltB most (addW IntKind.i64 want (selI (ltB (nth (Ty.int
    IntKind.i64) l i) 0) 0 (nth (Ty.int IntKind.i64) l i)))) most (addW IntKind.i64 want (selI (ltB (nth (Ty.int IntKind.i64) l i) 0) 0 (nth (Ty.int IntKind.i64) l i))),
    addW IntKind.i64 i 1, upF cmost (upF cmost now (nth (Ty.int IntKind.i64) l i :: @List.nil (den (Ty.int IntKind.i64)))) (0 :: -1 :: @List.nil (den (Ty.int IntKind.i64))),
    cmost, false) ∧ meas (most, l, selI (ltB most (addW IntKind.i64 want (selI (ltB (nth (Ty.int IntKind.i64) l i) 0) 0 (nth (Ty.int IntKind.i64) l i)))) most (addW
    IntKind.i64 want (selI (ltB (nth (Ty.int IntKind.i64) l i) 0) 0 (nth (Ty.int IntKind.i64) l i))), addW IntKind.i64 i 1, upF cmost (upF cmost now (nth (Ty.int IntKind.i64)
    l i :: @List.nil (den (Ty.int IntKind.i64)))) (0 :: -1 :: @List.nil (den (Ty.int IntKind.i64))), cmost, false) < nn))))))))))))))))) (eqI most most (eqD l l (eqI
    want want (eqI i i (eqI now now (eqI cmost cmost (EE0 (most, l, want, i, now, cmost, false))))))))) := by kernel_rfl
theorem body_ups_ok : ∀ x y, Pre_ups x → Inv_ups x y → awp tab fs_alive (acall tab fs_alive specs_rup fns 100 20) [] 100 (loopAt Try.f7 10) (bodyN sh_ups sx_ups nx_ups (Inv_ups x) (M_ups x) (M_ups x y) (D_ups x)) (sh_ups y) := by
  rintro ⟨most0, l0, want0, i0, now0, cmost0, r0⟩ ⟨most, l, want, i, now, cmost, r⟩ hp hI
  obtain ⟨⟨rfl, rfl, rfl⟩, hI⟩ := hI
  have hp : i0 = 0 ∧ want0 = 0 ∧ now0 = 0 ∧ cmost = most ∧ (0 ≤ most ∧ most ≤ 1099511627776) ∧ lenI l ≤ 200 := hp
  unfold D_ups
  rw [body_ups]
  have hInv : ∀ (want : Int) (i : Int) (now : Int) (r : Bool), ((0 ≤ i ∧ i ≤ lenI l) ∧ now = want ∧ 0 ≤ want ∧ want ≤ most) → Inv_ups (most, l, want0, i0, now0, cmost, r0) (most, l, want, i, now, cmost, r) := fun _ _ _ _ h => ⟨⟨rfl, rfl, rfl⟩, h⟩
  generalize hIe : Inv_ups (most, l, want0, i0, now0, cmost, r0) = Inv at hInv ⊢
  have hMe : ∀ (want : Int) (i : Int) (now : Int) (r : Bool), M_ups (most, l, want0, i0, now0, cmost, r0) (most, l, want, i, now, cmost, r) = (lenI l - i).toNat := fun _ _ _ _ => rfl
  generalize M_ups (most, l, want0, i0, now0, cmost, r0) = Me at hMe ⊢
  have hE0 : ∀ (want : Int) (i : Int) (now : Int) (r : Bool), (now = want ∧ 0 ≤ want ∧ want ≤ most) → E0_ups (most, l, want0, i0, now0, cmost, r0) (most, l, want, i, now, cmost, r) := fun _ _ _ _ h => ⟨⟨rfl, rfl, rfl⟩, h⟩
  generalize E0_ups (most, l, want0, i0, now0, cmost, r0) = EE0 at hE0 ⊢
  have hR : ∀ (want : Int) (i : Int) (now : Int) (r : Bool), (r = true) → R_ups (most, l, want0, i0, now0, cmost, r0) (most, l, want, i, now, cmost, r) := fun _ _ _ _ h => ⟨⟨rfl, rfl, rfl⟩, h⟩
  generalize R_ups (most, l, want0, i0, now0, cmost, r0) = RR at hR ⊢
  obtain ⟨hi, hnw, h0, h1⟩ := hI
  obtain ⟨p1, p2, p3, p4, p5, p6⟩ := hp
  subst hnw
  subst p4
  by_cases hlt : i < lenI l
  · obtain ⟨v, hv0⟩ : ∃ v : Int, nth (.int .i64) l i = v := ⟨_, rfl⟩
    rw [ltB_t.2 hlt]
    simp only [hv0]
    have ei : addW .i64 i 1 = i + 1 := addW64 (by omega) (by omega)
    by_cases hb : 1099511627776 < v
    · simp only [ltB_t.2 hb]
      simp only [need_def, appL_def, ifB_def, impB_def, selB_f, selB_t, selI_def, selX_def, notB_def, andB_def, orB_def, beqB_def, ltB_def, leB_def, eqB_def, seqB_def, eqI_def, eqL_def, eqS_def, eqD_def, eqT_def, imp_def, inI_def, nzI_def, geZ_def, ret_bool, ret_int, Bool.and_eq_true, Bool.or_eq_true, Bool.not_eq_true', Bool.not_eq_false', decide_eq_true_eq, decide_eq_false_iff_not, Bool.and_eq_false_iff, Bool.or_eq_false_iff, Int.not_lt, Int.not_le, true_and, and_true, implies_true, Bool.false_eq_true, Bool.true_eq_false, false_implies, forall_const, reduceCtorEq, if_true, if_false, true_implies]
      exact ⟨⟨hi.1, hlt⟩, hR _ _ _ _ rfl⟩
    · simp only [ltB_f.2 (Int.not_lt.1 hb), smin, smax]
      have ew : addW .i64 now (max v 0) = now + max v 0 := addW64 (by omega) (by omega)
      have ok1 : okN now cmost := by unfold okN; omega
      have ok2 : okN (min (now + max v 0) cmost) cmost := by unfold okN; omega
      have l1 : lenOK 1 := by unfold lenOK; omega
      have l2 : lenOK 2 := by unfold lenOK; omega
      simp only [ew, up_one ⟨h0, h1⟩, ei]
      rw [up_none]
      simp only [eqB_self, notB_def, Bool.not_true, ifB_def]
      simp only [need_def, eqI_def, eqL_def, eqD_def, inI_def, hMe, ok1, ok2, l1, l2, true_and, Bool.false_eq_true, false_implies, forall_const]
      repeat' (first | with_reducible rfl | omega | (exact hInv _ _ _ _ ⟨by omega, rfl, by omega, by omega⟩) | refine ⟨?_, ?_⟩ | (intro hx; cases hx; done) | intro _)
  · rw [ltB_f.2 (Int.not_lt.1 hlt)]
    simp only [need_def, appL_def, ifB_def, impB_def, selB_f, selB_t, selI_def, selX_def, notB_def, andB_def, orB_def, beqB_def, ltB_def, leB_def, eqB_def, seqB_def, eqI_def, eqL_def, eqS_def, eqD_def, eqT_def, imp_def, inI_def, nzI_def, geZ_def, ret_bool, ret_int, Bool.and_eq_true, Bool.or_eq_true, Bool.not_eq_true', Bool.not_eq_false', decide_eq_true_eq, decide_eq_false_iff_not, Bool.and_eq_false_iff, Bool.or_eq_false_iff, Int.not_lt, Int.not_le, true_and, and_true, implies_true, Bool.false_eq_true, Bool.true_eq_false, false_implies, forall_const, reduceCtorEq, if_true, if_false, true_implies]
    exact hE0 _ _ _ _ ⟨rfl, h0, h1⟩
theorem summ_ups : SummOK Try.prog (loopAt Try.f7 10) S_ups :=
  summN_ok (L := []) (fuel := 100) tabOK fsOK_alive (mkCall fsOK_alive specsOK_rup fnsOK) (fun C => mkDraw fsOK_alive (mkCall fsOK_alive specsOK_rup fnsOK) C) loopsOK_nil Inv_ups M_ups
    (fun x hp => by
      obtain ⟨most, l, want, i, now, cmost, r⟩ := x
      have hp : i = 0 ∧ want = 0 ∧ now = 0 ∧ cmost = most ∧ (0 ≤ most ∧ most ≤ 1099511627776) ∧ lenI l ≤ 200 := hp
      obtain ⟨rfl, rfl, rfl, rfl, h1, h2⟩ := hp
      exact ⟨⟨rfl, rfl, rfl⟩, ⟨by omega, lenI_nn _⟩, rfl, by omega, by omega⟩)
    body_ups_ok
noncomputable def fns_LRingUps : Fns := (7, Try.f7, [(10, S_ups)]) :: fns
theorem fn_LRingUps : FnOK Try.prog 7 Try.f7 [(10, S_ups)] := fnOK_loops Try.func7 (fun vs w => Try.call7 vs w) (by kernel_rfl) fun k S h => by
  simp only [List.mem_cons, Prod.mk.injEq, List.not_mem_nil, or_false] at h
  obtain ⟨rfl, rfl⟩ := h
  exact summ_ups
theorem fns_LRingUpsOK : FnsOK Try.prog fns_LRingUps := fnsOK_cons fn_LRingUps fnsOK
theorem RingUps_eq (most : Int) (l : List (den (.int .i64))) : acall tab fs_alive specs_rup fns_LRingUps 100 20 7 [.int .i64 most, .view [] (.int .i64) l] [] (fun o _ _ _ => o = .ret (.bool true)) =
  (ifB (selB (selB (ltB most 0) true (ltB 1099511627776 most)) true (ltB 200 (lenI l))) (AOut.ret (AV.bool true) = AOut.ret (AV.bool true)) (ifB (ltB most 0) (AOut.ret
    (AV.bool false) = AOut.ret (AV.bool true)) (eqI most most (eqD l l (eqI 0 0 (eqI 0 0 (eqI 0 0 (eqI most most (((0 : Int) = 0 ∧ (0 : Int) = 0 ∧ (0 : Int) = 0 ∧ most
    = most ∧ (0 ≤ most ∧ most ≤ 1099511627776) ∧ lenI l ≤ 200) ∧ ((∀ (y : X_ups), (y.1 = most ∧ y.2.1 = l ∧ y.2.2.2.2.2.1 = most) ∧ y.2.2.2.2.1 = y.2.2.1 ∧ 0 ≤ y.2.2.1
    ∧ y.2.2.1 ≤ y.1 → need (okN y.2.2.2.2.1 y.2.2.2.2.2.1) (need (lenOK 0) (ifB (notB (eqB (upF y.2.2.2.2.2.1 y.2.2.2.2.1 (@List.nil (den (Ty.int IntKind.i64)))) (selI
    (ltB y.1 (addW IntKind.i64 y.2.2.1 1)) y.1 (addW IntKind.i64 y.2.2.1 1)))) (AOut.ret (AV.bool false) = AOut.ret (AV.bool true)) (AOut.ret (AV.bool true) = AOut.ret
    (AV.bool true))))) ∧ True) ∧ ∀ (y : X_ups), (y.1 = most ∧ y.2.1 = l ∧ y.2.2.2.2.2.1 = most) ∧ y.2.2.2.2.2.2 = true → AOut.ret (AV.bool y.2.2.2.2.2.2) = AOut.ret
    (AV.bool true)))))))))) := by kernel_rfl
theorem RingUps_call : CallOK Try.prog (acall tab fs_alive specs_rup fns_LRingUps 100 20) := mkCall fsOK_alive specsOK_rup fns_LRingUpsOK
theorem RingUps_go (most : Int) (l : List (den (.int .i64))) : LawEv (acall tab fs_alive specs_rup fns_LRingUps 100 20) 7 [.int .i64 most, .view [] (.int .i64) l] := by
  refine ⟨?_⟩
  rw [RingUps_eq]
  rw [ifB_def]
  refine ⟨fun _ => rfl, fun hg => ?_⟩
  simp only [selB_t, ltB_def, Bool.or_eq_false_iff, decide_eq_false_iff_not, Int.not_lt] at hg
  obtain ⟨⟨g1, g2⟩, g3⟩ := hg
  rw [ltB_f.2 g1]
  simp only [ifB_def, Bool.false_eq_true, false_implies, true_and, forall_const, eqI_def, eqD_def, need_def, and_true]
  refine ⟨⟨⟨g1, g2⟩, g3⟩, ?_, ?_⟩
  · rintro ⟨most', l', want, i, now, cmost, r⟩ ⟨hk, h1, h2, h3⟩
    dsimp only at hk h1 h2 h3 ⊢
    obtain ⟨rfl, rfl, rfl⟩ := hk
    subst h1
    have ew : addW .i64 now 1 = now + 1 := addW64 (by omega) (by omega)
    refine ⟨by unfold okN; omega, by unfold lenOK; omega, ?_⟩
    rw [ew, smin, up_nil ⟨h2, h3⟩, eqB_t.2 rfl]
    simp [notB]
  · rintro ⟨most', l', want, i, now, cmost, r⟩ ⟨hk, rfl⟩
    rfl
theorem RingUps_ev : ∀ xs : DT [(.int .i64), (.list (.int .i64))], wfs [(.int .i64), (.list (.int .i64))] xs → LawEv (acall tab fs_alive specs_rup fns_LRingUps 100 20) 7 (argsA tab #[3, 22].toList [(.int .i64), (.list (.int .i64))] xs) := by
  rintro ⟨most, l, ⟨⟩⟩ hw
  exact RingUps_go most l



theorem RingUps_own : ownKnob Try.prog.godebug = none := by kernel_rfl
theorem RingUps_kids : Kids Try.prog (· < Try.prog.types.size) := kids_rows (by kernel_rfl) (by kernel_rfl)
theorem RingUps_full : ∀ t e, t < Try.prog.types.size → Try.prog.underlying t = some (.slice e) → 0 < Try.prog.cellsOf e := slices_full_of _ (by kernel_rfl)

theorem RingUps_lifted (os : Os) (started : os.Started) (H : Type) (enc : TypeId × Value → H) :
    ReturnsInHanded {} Try.checked os 7 .any (Rows.ringUpsSpec.pre6 enc Try.prog Try.f7 Rows.ringUpsRow.domain false) (Rows.ringUpsSpec.post enc Try.prog Try.f7 false true false false) := by
  refine returnsInHanded_of_change_shaped (C := Try.checked) RingUps_own started (by kernel_rfl) Try.func7
    (ChangeSpec.witness6 (enc := enc) (C := Try.checked) false ⟨#[], #[(Value.int IntKind.i64 0), (Value.slice none 0 0)], []⟩ 8 (by kernel_rfl) (by kernel_rfl) (by kernel_rfl) (by kernel_rfl)) ?_
  intro W base args ds gs before hval hW _ hwt _ _
  refine law_contract' (P := Try.prog) (fn := Try.f7) (s := Rows.ringUpsSpec) (tb := 4) (Ts := [(.int .i64), (.list (.int .i64))]) (call := (acall tab fs_alive specs_rup fns_LRingUps 100 20)) (f := 7) tabOK RingUps_call RingUps_kids RingUps_full Try.params7 (by decide +kernel) rfl rfl Try.underlying4 ?_ (by kernel_rfl) RingUps_ev hval hW hwt
  intro ds hl
  match ds, hl with
  | [d0, d1], _ => rfl

theorem RingUps_holds : Rows.RingUpsSaid :=
  OpenClaim.holds_of_wide 7 Try.f7 rfl rfl rfl rfl rfl rfl rfl ⟨rfl, rfl, rfl, rfl, rfl⟩ rfl rfl rfl rfl rfl (by kernel_rfl) Try.func7 (by kernel_rfl)
    (of_decide_eq_true (by kernel_rfl)) (by unfold Func.isWrapper; first | (rw [if_pos (by decide +kernel)]; kernel_rfl) | (rw [if_neg (by decide +kernel)]; exact ⟨rfl, rfl⟩))
    (fun os started H enc _ => RingUps_lifted os started H enc)

end Go.Proofs.Ytgifbceiaibejaa
