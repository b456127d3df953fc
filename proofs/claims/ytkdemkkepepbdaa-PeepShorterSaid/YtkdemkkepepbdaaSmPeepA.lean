/- Rules: what each says. -/
import Derived.Test.YtkdemkkepepbdaaSxV
import Derived.Test.YtkdemkkepepbdaaSx13
namespace Go.Proofs.Ytkdemkkepepbdaa.Sx
open Go.RowKit
set_option maxRecDepth 100000
set_option maxHeartbeats 4000000
set_option linter.unusedVariables false
set_option linter.unusedSimpArgs false
@[reducible] def CodeT : Ty := .prod (.int .i64) (.prod (.int .i64) (.prod (.int .i64) (.int .i64)))
def areG : List (den CodeT) → List Int → Bool
  | _, [] => true
  | c :: l, k :: ks => decide (c.1 = k) && areG l ks
  | [], _ :: _ => false
def areP (l : List (den CodeT)) (i : Int) (ks : List Int) : Bool := areG (l.drop i.toNat) ks
def areF (l : List (den CodeT)) (i : Int) (ks : List Int) : Bool := decide (0 ≤ i) && decide (lenI ks ≤ lenI l - i) && areG (l.drop i.toNat) ks
theorem drop_cons' {α : Type} {d : α} {l : List α} {i : Int} (h0 : 0 ≤ i) (h1 : i < lenI l) : ∃ x, l.drop i.toNat = x :: l.drop (i + 1).toNat ∧ l.getD i.toNat d = x := by
  have hh : i.toNat < l.length := by unfold lenI at h1; omega
  have e : (i + 1).toNat = i.toNat + 1 := by omega
  refine ⟨l[i.toNat], ?_, ?_⟩
  · rw [e, ← List.getElem_cons_drop hh]
  · rw [List.getD_eq_getElem?_getD, List.getElem?_eq_getElem hh]; rfl
abbrev X_are := List (den CodeT) × Int × List (den (.int .i64)) × Int × Int × Bool
def sh_are : X_are → St := fun x => match x with | (l, i, ks, n, j, r) => ⟨setL (rep .bad 37) [(0, .view [] CodeT l), (1, .int .i64 i), (20, .view [] (.int .i64) ks), (21, .int .i64 n), (22, .int .i64 j)], [], [], []⟩
def shr_are : X_are → St := fun x => match x with | (l, i, ks, n, j, r) => ⟨setL (rep .bad 37) [(0, .view [] CodeT l), (1, .int .i64 i), (20, .view [] (.int .i64) ks), (21, .int .i64 n), (22, .int .i64 j), (6, .bool r)], [], [], []⟩
def sx_are : AExit → X_are → St := fun e => match e with | .ret => shr_are | _ => sh_are
def nx_are (σ : St) : X_are := (gV CodeT σ 0, gI σ 1, gV (.int .i64) σ 20, gI σ 21, gI σ 22, gB σ 6)
def Pre_are : X_are → Prop := fun x => match x with | (l, i, ks, n, j, r) => j = 0 ∧ n = lenI ks ∧ 0 ≤ i ∧ lenI ks ≤ lenI l - i
def E0_are : X_are → X_are → Prop := fun x y => match x, y with | (l0, i0, ks0, n0, j0, r0), (l, i, ks, n, j, r) => (l = l0 ∧ i = i0 ∧ ks = ks0 ∧ n = n0) ∧ (areP l i ks = true)
def R_are : X_are → X_are → Prop := fun x y => match x, y with | (l0, i0, ks0, n0, j0, r0), (l, i, ks, n, j, r) => (l = l0 ∧ i = i0 ∧ ks = ks0 ∧ n = n0) ∧ (r = false ∧ areP l i ks = false)
def D_are : X_are → LEnds X_are := fun x => ⟨[(0, E0_are x)], R_are x⟩
noncomputable def S_are : Summ := summN sh_are sx_are nx_are Pre_are D_are
def Inv_are : X_are → X_are → Prop := fun x y => match x, y with | (l0, i0, ks0, n0, j0, r0), (l, i, ks, n, j, r) => (l = l0 ∧ i = i0 ∧ ks = ks0 ∧ n = n0) ∧ ((0 ≤ j ∧ j ≤ n) ∧ areP (l.drop (i + j).toNat) 0 (ks.drop j.toNat) = areP l i ks)
def M_are : X_are → X_are → Nat := fun x y => match x, y with | (l0, i0, ks0, n0, j0, r0), (l, i, ks, n, j, r) => (n - j).toNat
theorem body_are (Inv : X_are → Prop) (meas : X_are → Nat) (nn : Nat) (EE0 RR : X_are → Prop) (l : List (den CodeT)) (i : Int) (ks : List (den (.int .i64))) (n : Int) (j : Int) (r : Bool) : awp tab [] (acall tab [] [] fns 100 20) [] 100 (loopAt Try.f17 4) (bodyN sh_are sx_are nx_are Inv meas nn ⟨[(0, EE0)], RR⟩) (sh_are (l, i, ks, n, j, r)) =
  (ifB (ltB j n) (need (inI j (lenI ks)) (need (inI (addW IntKind.i64 i j) (lenI l)) (ifB (notB (eqB (nth CodeT l (addW IntKind.i64 i j)).fst (nth (Ty.int IntKind.i64)
    ks j))) (eqDr l (eqIr i (eqLr false (eqDr ks (eqIr n (eqIr j (RR (l, i, ks, n, j, false)))))))) (eqDr l (eqIr i (eqDr ks (eqIr n (eqIr (addW IntKind.i64 j 1) (Inv
    (l, i, ks, n, addW IntKind.i64 j 1, false) ∧ meas (l, i, ks, n, addW IntKind.i64 j 1, false) < nn))))))))) (eqDr l (eqIr i (eqDr ks (eqIr n (eqIr j (EE0 (l, i, ks,
    n, j, false)))))))) := by kernel_rfl
theorem body_are_ok : ∀ x y, Pre_are x → Inv_are x y → wfS (sh_are y) → Hd (awp tab [] (acall tab [] [] fns 100 20) [] 100 (loopAt Try.f17 4) (bodyN sh_are sx_are nx_are (Inv_are x) (M_are x) (M_are x y) (D_are x)) (sh_are y)) := by
  rintro ⟨l0, i0, ks0, n0, j0, r0⟩ ⟨l, i, ks, n, j, r⟩ hp hI hw
  obtain ⟨⟨rfl, rfl, rfl, rfl⟩, hI⟩ := hI
  have hw_l := wfL_view hw 0 rfl
  have hw_i := wfL_int hw 1 rfl
  have hw_ks := wfL_view hw 20 rfl
  have hw_n := wfL_int hw 21 rfl
  have hw_j := wfL_int hw 22 rfl
  have hp : j0 = 0 ∧ n = lenI ks ∧ 0 ≤ i ∧ lenI ks ≤ lenI l - i := hp
  unfold D_are
  rw [body_are]
  refine ⟨?_⟩
  have hInv : ∀ (j : Int) (r : Bool), ((0 ≤ j ∧ j ≤ n) ∧ areP (l.drop (i + j).toNat) 0 (ks.drop j.toNat) = areP l i ks) → Inv_are (l, i, ks, n, j0, r0) (l, i, ks, n, j, r) := fun _ _ h => ⟨⟨rfl, rfl, rfl, rfl⟩, h⟩
  generalize hIe : Inv_are (l, i, ks, n, j0, r0) = Inv at hInv ⊢
  have hMe : ∀ (j : Int) (r : Bool), M_are (l, i, ks, n, j0, r0) (l, i, ks, n, j, r) = (n - j).toNat := fun _ _ => rfl
  generalize M_are (l, i, ks, n, j0, r0) = Me at hMe ⊢
  have hE0 : ∀ (j : Int) (r : Bool), (areP l i ks = true) → E0_are (l, i, ks, n, j0, r0) (l, i, ks, n, j, r) := fun _ _ h => ⟨⟨rfl, rfl, rfl, rfl⟩, h⟩
  generalize E0_are (l, i, ks, n, j0, r0) = EE0 at hE0 ⊢
  have hR : ∀ (j : Int) (r : Bool), (r = false ∧ areP l i ks = false) → R_are (l, i, ks, n, j0, r0) (l, i, ks, n, j, r) := fun _ _ h => ⟨⟨rfl, rfl, rfl, rfl⟩, h⟩
  generalize R_are (l, i, ks, n, j0, r0) = RR at hR ⊢
  obtain ⟨hj, hI⟩ := hI
  obtain ⟨p1, rfl, p3, p4⟩ := hp
  have hlen := wfT_len hw_l
  have hlk := wfT_len hw_ks
  by_cases hlt : j < lenI ks
  · have ei : addW .i64 j 1 = j + 1 := addW64 (by omega) (by omega)
    have eij : addW .i64 i j = i + j := addW64 (by omega) (by omega)
    rw [drop_nth (t := CodeT) (by omega : 0 ≤ i + j) (by omega), drop_nth (t := .int .i64) hj.1 hlt] at hI
    have e2 : i + j + 1 = i + (j + 1) := by omega
    rw [e2] at hI
    have hI : (decide ((nth CodeT l (i + j)).1 = nth (.int .i64) ks j) && areP (l.drop (i + (j + 1)).toNat) 0 (ks.drop (j + 1).toNat)) = areP l i ks := hI
    have hin : inI j (lenI ks) := ⟨hj.1, hlt⟩
    have hin2 : inI (i + j) (lenI l) := ⟨by omega, by omega⟩
    rw [ltB_t.2 hlt]
    by_cases hc : (nth CodeT l (i + j)).1 = nth (.int .i64) ks j
    · rw [decide_eq_true hc, Bool.true_and] at hI
      rw [ei, eij]
      simp only [simpsL, implies_true, forall_const, if_true, if_false, reduceCtorEq, hMe, hin, hin2, hc, not_true_eq_false, false_implies, true_and]
      (repeat' (first | with_reducible rfl | assumption | omega | (apply Eq.symm; assumption) | (simp only [hMe]; omega) | (exact lenI_nn _) | trivial | (refine hInv _ ?_) | (refine hInv _ _ ?_) | (refine hInv _ _ _ ?_) | (refine hInv _ _ _ _ ?_) | (refine hE0 _ ?_) | (refine hE0 _ _ ?_) | (refine hE0 _ _ _ ?_) | (refine hE0 _ _ _ _ ?_) | (refine hR _ ?_) | (refine hR _ _ ?_) | (refine hR _ _ _ ?_) | (refine hR _ _ _ _ ?_) | refine ⟨?_, ?_⟩ | intro _))
    · rw [decide_eq_false hc, Bool.false_and] at hI
      rw [ei, eij]
      simp only [simpsL, implies_true, forall_const, if_true, if_false, reduceCtorEq, hMe, hin, hin2, hc, not_false_eq_true, true_implies]
      (repeat' (first | with_reducible rfl | assumption | omega | (apply Eq.symm; assumption) | (simp only [hMe]; omega) | (exact lenI_nn _) | trivial | (refine hInv _ ?_) | (refine hInv _ _ ?_) | (refine hInv _ _ _ ?_) | (refine hInv _ _ _ _ ?_) | (refine hE0 _ ?_) | (refine hE0 _ _ ?_) | (refine hE0 _ _ _ ?_) | (refine hE0 _ _ _ _ ?_) | (refine hR _ ?_) | (refine hR _ _ ?_) | (refine hR _ _ _ ?_) | (refine hR _ _ _ _ ?_) | refine ⟨?_, ?_⟩ | intro _))
  · rw [drop_all (xs := ks) (by omega)] at hI
    have hI : true = areP l i ks := by rw [← hI]; unfold areP areG; rfl
    rw [ltB_f.2 (Int.not_lt.1 hlt)]
    simp only [simpsL, implies_true, forall_const, if_true, if_false, reduceCtorEq]
    exact hE0 _ _ hI.symm
theorem summ_are : SummOK Try.prog (loopAt Try.f17 4) S_are :=
  summN_ok (L := []) (fuel := 100) tabOK fsOK_nil (mkCall fsOK_nil specsOK_nil fnsOK) (fun C => mkDraw fsOK_nil (mkCall fsOK_nil specsOK_nil fnsOK) C) loopsOK_nil Inv_are M_are
    (fun x hp hw => by
      obtain ⟨l, i, ks, n, j, r⟩ := x
      have hp : j = 0 ∧ n = lenI ks ∧ 0 ≤ i ∧ lenI ks ≤ lenI l - i := hp
      have hw_l := wfL_view hw 0 rfl
      have hw_i := wfL_int hw 1 rfl
      have hw_ks := wfL_view hw 20 rfl
      have hw_n := wfL_int hw 21 rfl
      have hw_j := wfL_int hw 22 rfl
      obtain ⟨rfl, rfl, _⟩ := hp
      exact ⟨⟨rfl, rfl, rfl, rfl⟩, ⟨by omega, lenI_nn _⟩, by rw [Int.add_zero]; rfl⟩)
    (body_are_ok)
noncomputable def fns_are : Fns := (17, Try.f17, [(4, S_are)]) :: fns
theorem fn_are : FnOK Try.prog 17 Try.f17 [(4, S_are)] := fnOK_loops Try.func17 (fun vs w => Try.call17 vs w) (by kernel_rfl) fun k S h => by
  simp only [List.mem_cons, Prod.mk.injEq, List.not_mem_nil, or_false] at h
  obtain ⟨rfl, rfl⟩ := h
  exact summ_are
theorem fns_areOK : FnsOK Try.prog fns_are := fnsOK_cons fn_are fnsOK
noncomputable def areS : List AV → OV := fun args => match args with | [.view [] (.prod (.int .i64) (.prod (.int .i64) (.prod (.int .i64) (.int .i64)))) l, .int .i64 i, .view [] (.int .i64) ks] => some ([], .bool (areF l i ks)) | _ => none
theorem are_eq (l : List (den CodeT)) (i : Int) (ks : List Int) : acall tab [] [] fns_are 100 20 17 [.view [] CodeT l, .int .i64 i, .view [] (.int .i64) ks] [] (fun o mm _ _ => resN (.any) mm o = .ret (.bool (areF l i ks))) =
  (ifB (selB (ltB i 0) true (ltB (subW IntKind.i64 (lenI l) i) (lenI ks))) (AOut.ret (AV.bool false) = AOut.ret (AV.bool (areF l i ks))) (eqDr l (eqIr i (eqDr ks (eqIr
    (lenI ks) (eqIr 0 (((0 : Int) = 0 ∧ lenI ks = lenI ks ∧ 0 ≤ i ∧ lenI ks ≤ lenI l - i) ∧ ((∀ (y : X_are), (y.1 = l ∧ y.2.1 = i ∧ y.2.2.1 = ks ∧ y.2.2.2.1 = lenI ks)
    ∧ areP y.1 y.2.1 y.2.2.1 = true → AOut.ret (AV.bool true) = AOut.ret (AV.bool (areF l i ks))) ∧ True) ∧ ∀ (y : X_are), (y.1 = l ∧ y.2.1 = i ∧ y.2.2.1 = ks ∧ y.2.2.2.1
    = lenI ks) ∧ y.2.2.2.2.2 = false ∧ areP y.1 y.2.1 y.2.2.1 = false → AOut.ret (AV.bool y.2.2.2.2.2) = AOut.ret (AV.bool (areF l i ks))))))))) := by kernel_rfl
theorem are_ok : SpecOK Try.prog 17 (fspecS (pureN [.sl CodeT, .any, .sl (.int .i64)] areS)) := pureN_ok (mkCall fsOK_nil specsOK_nil fns_areOK) (.any) (fun vs w => Try.call17 vs w) fun args ps v h hp hw => by
  unfold areS at h
  split at h
  · cases h
    rename_i l i ks
    rw [are_eq]
    refine ⟨?_⟩
    simp only [allP_cons, allP_nil, and_true] at hp
    simp only [wfAL, wfA, wfS, wfM, wfB, and_true, true_and, wfT_int, wfT_str, wfT_bool, wfT_prod] at hw
    have hl := wfT_len hw.1
    have h0 := lenI_nn l
    have hk0 := lenI_nn ks
    have hs : 0 ≤ i → subW .i64 (lenI l) i = lenI l - i := fun h => subW64 (by have := has64r hw.2.1; omega) (by omega)
    by_cases h1 : 0 ≤ i
    · rw [hs h1]
      simp only [simpsL, implies_true, forall_const, if_true, if_false, reduceCtorEq]
      refine ⟨fun h => ?_, fun h => ⟨h, fun y hy => ?_, fun y hy => ?_⟩⟩
      · have : ¬ lenI ks ≤ lenI l - i := by omega
        unfold areF; rw [decide_eq_false this]; simp
      · obtain ⟨l', i', ks', n', j', r'⟩ := y
        dsimp only at hy ⊢
        obtain ⟨⟨rfl, rfl, rfl, rfl⟩, hy⟩ := hy
        have hy : areG (l'.drop i'.toNat) ks' = true := hy
        unfold areF; rw [decide_eq_true h.1, decide_eq_true h.2, hy]; rfl
      · obtain ⟨l', i', ks', n', j', r'⟩ := y
        dsimp only at hy ⊢
        obtain ⟨⟨rfl, rfl, rfl, rfl⟩, rfl, hy⟩ := hy
        have hy : areG (l'.drop i'.toNat) ks' = false := hy
        unfold areF; rw [hy]; simp
    · have e : areF l i ks = false := by unfold areF; rw [decide_eq_false h1]; rfl
      simp only [simpsL, implies_true, forall_const, if_true, if_false, reduceCtorEq, e]
      exact fun h => absurd h.1 h1
  · cases h
noncomputable def FF_are : FSpec := pureN [.sl CodeT, .any, .sl (.int .i64)] areS
theorem FFok_are : SpecOK Try.prog 17 (fspecS FF_are) := are_ok
noncomputable def fs_are : FS := (17, FF_are) :: []
theorem fsOK_are : FSOK Try.prog fs_are := fsOK_cons FFok_are fsOK_nil
def lessF (c : den CodeT) : den CodeT := (c.1, subW .i64 c.2.1 1, c.2.2.1, c.2.2.2)
def twinsC (many : Bool) (l : List (den CodeT)) (i : Int) : Bool := (areF l i [2, 2, 5] || areF l i [2, 2, 4]) && decide ((nth CodeT l i).2.1 = (nth CodeT l (i + 1)).2.1) && (if many then decide (2 < (nth CodeT l (i + 2)).2.1) else decide ((nth CodeT l (i + 2)).2.1 = 2))
def twinsL (many : Bool) (l : List (den CodeT)) (i : Int) : List (den CodeT) := if twinsC many l i then (if many then [nth CodeT l i, lessF (nth CodeT l (i + 2))] else [nth CodeT l i]) else []
def twinsN (many : Bool) (l : List (den CodeT)) (i : Int) : Int := if twinsC many l i then 3 else 0
def idleA (l : List (den CodeT)) (i : Int) : Bool := areF l i [1, 5] || areF l i [0, 4]
def idleC (many : Bool) (l : List (den CodeT)) (i : Int) : Bool := idleA l i && (if many then decide (2 < (nth CodeT l (i + 1)).2.1) else decide ((nth CodeT l (i + 1)).2.1 = 2))
def idleL (many : Bool) (l : List (den CodeT)) (i : Int) : List (den CodeT) := if idleA l i && many then [lessF (nth CodeT l (i + 1))] else []
def idleN (l : List (den CodeT)) (i : Int) : Int := if idleA l i then 2 else 0
theorem are_len {l : List (den CodeT)} {i : Int} {ks : List Int} (h : areF l i ks = true) : 0 ≤ i ∧ lenI ks ≤ lenI l - i := by
  unfold areF at h
  simp only [Bool.and_eq_true, decide_eq_true_eq] at h
  exact h.1
noncomputable def lessS : List AV → OV := fun args => match args with | [.agg [.int .i64 d, .int .i64 a, .int .i64 f, .int .i64 t]] => some ([], .agg [.int .i64 d, .int .i64 (subW .i64 a 1), .int .i64 f, .int .i64 t]) | _ => none
theorem less_eq (d a f t : Int) : acall tab fs_are [] fns 100 20 19 [.agg [.int .i64 d, .int .i64 a, .int .i64 f, .int .i64 t]] [] (fun o mm _ _ => resN (.any) mm o = .ret (.agg [.int .i64 d, .int .i64 (subW .i64 a 1), .int .i64 f, .int .i64 t])) =
  (AOut.ret (AV.agg (AV.int IntKind.i64 d :: AV.int IntKind.i64 (subW IntKind.i64 a 1) :: AV.int IntKind.i64 f :: AV.int IntKind.i64 t :: [])) = AOut.ret (AV.agg (AV.int
    IntKind.i64 d :: AV.int IntKind.i64 (subW IntKind.i64 a 1) :: AV.int IntKind.i64 f :: AV.int IntKind.i64 t :: []))) := by kernel_rfl
theorem less_ok : SpecOK Try.prog 19 (fspecS (pureN [] lessS)) := pureN_ok (mkCall fsOK_are specsOK_nil fnsOK) (.any) (fun vs w => Try.call19 vs w) fun args ps v h hp hw => by
  unfold lessS at h
  split at h
  · cases h
    rename_i d a f t
    rw [less_eq]
    refine ⟨?_⟩
    simp only [allP_cons, allP_nil, and_true] at hp
    simp only [wfAL, wfA, wfS, wfM, wfB, and_true, true_and, wfT_int, wfT_str, wfT_bool, wfT_prod] at hw
    first | (simp only [simpsL, implies_true, forall_const, if_true, if_false, reduceCtorEq]; done) | (simp only [simpsL, implies_true, forall_const, if_true, if_false, reduceCtorEq]; rfl)
  · cases h
noncomputable def FF_less : FSpec := pureN [] lessS
theorem FFok_less : SpecOK Try.prog 19 (fspecS FF_less) := less_ok
noncomputable def fs_less : FS := (19, FF_less) :: fs_are
theorem fsOK_less : FSOK Try.prog fs_less := fsOK_cons FFok_less fsOK_are
noncomputable def oneS : List AV → OV := fun args => match args with | [.int .i64 d] => some ([], .view [] CodeT [(d, 0, 0, 0)]) | _ => none
theorem one_eq (d : Int) : acall tab fs_less [] fns 100 20 10 [.int .i64 d] [] (fun o mm _ _ => resN (.sl CodeT) mm o = .ret (.view [] CodeT [(d, 0, 0, 0)])) =
  (AOut.ret (AV.view [] CodeT ((d, 0, 0, 0) :: @List.nil (den CodeT))) = AOut.ret (AV.view [] CodeT ((d, 0, 0, 0) :: @List.nil (den CodeT)))) := by kernel_rfl
theorem one_ok : SpecOK Try.prog 10 (fspecS (pureN [] oneS)) := pureN_ok (mkCall fsOK_less specsOK_nil fnsOK) (.sl CodeT) (fun vs w => Try.call10 vs w) fun args ps v h hp hw => by
  unfold oneS at h
  split at h
  · cases h
    rename_i d
    rw [one_eq]
    refine ⟨?_⟩
    simp only [allP_cons, allP_nil, and_true] at hp
    simp only [wfAL, wfA, wfS, wfM, wfB, and_true, true_and, wfT_int, wfT_str, wfT_bool, wfT_prod] at hw
    first | (simp only [simpsL, implies_true, forall_const, if_true, if_false, reduceCtorEq]; done) | (simp only [simpsL, implies_true, forall_const, if_true, if_false, reduceCtorEq]; rfl)
  · cases h
noncomputable def FF_one : FSpec := pureN [] oneS
theorem FFok_one : SpecOK Try.prog 10 (fspecS FF_one) := one_ok
noncomputable def fs_one : FS := (10, FF_one) :: fs_less
theorem fsOK_one : FSOK Try.prog fs_one := fsOK_cons FFok_one fsOK_less
noncomputable def turnedRS : List AV → OV := fun args => match args with | [.view [] (.prod (.int .i64) (.prod (.int .i64) (.prod (.int .i64) (.int .i64)))) l, .int .i64 i, .vptr [] [.view [] (.prod (.int .i64) (.prod (.int .i64) (.prod (.int .i64) (.int .i64)))) to], .vptr [] [.int .i64 f]] => some ([], .tup [.view [] CodeT to, .int .i64 2, .bool (areF l i [f, 3])]) | _ => none
theorem turnedR_eq (l : List (den CodeT)) (i f : Int) (to : List (den CodeT)) : acall tab fs_one [] fns 100 20 16 [.view [] CodeT l, .int .i64 i, .vptr [] [.view [] CodeT to], .vptr [] [.int .i64 f]] [] (fun o mm _ _ => resN (.any) mm o = .ret (.tup [.view [] CodeT to, .int .i64 2, .bool (areF l i [f, 3])])) =
  (AOut.ret (AV.tup (AV.view [] CodeT to :: AV.int IntKind.i64 2 :: AV.bool (areF l i (f :: 3 :: @List.nil (den (Ty.int IntKind.i64)))) :: [])) = AOut.ret (AV.tup (AV.view
    [] CodeT to :: AV.int IntKind.i64 2 :: AV.bool (areF l i (f :: 3 :: @List.nil Int)) :: []))) := by kernel_rfl
theorem turnedR_ok : SpecOK Try.prog 16 (fspecS (pureN [.sl CodeT, .any, .ag [.sl CodeT], .any] turnedRS)) := pureN_ok (mkCall fsOK_one specsOK_nil fnsOK) (.any) (fun vs w => Try.call16 vs w) fun args ps v h hp hw => by
  unfold turnedRS at h
  split at h
  · cases h
    rename_i l i f to
    rw [turnedR_eq]
    refine ⟨?_⟩
    simp only [allP_cons, allP_nil, and_true] at hp
    simp only [wfAL, wfA, wfS, wfM, wfB, and_true, true_and, wfT_int, wfT_str, wfT_bool, wfT_prod] at hw
    first | (simp only [simpsL, implies_true, forall_const, if_true, if_false, reduceCtorEq]; done) | (simp only [simpsL, implies_true, forall_const, if_true, if_false, reduceCtorEq]; rfl)
  · cases h
noncomputable def FF_turnedR : FSpec := pureN [.sl CodeT, .any, .ag [.sl CodeT], .any] turnedRS
theorem FFok_turnedR : SpecOK Try.prog 16 (fspecS FF_turnedR) := turnedR_ok
noncomputable def fs_turnedR : FS := (16, FF_turnedR) :: fs_one
theorem fsOK_turnedR : FSOK Try.prog fs_turnedR := fsOK_cons FFok_turnedR fsOK_one
noncomputable def turnedS : List AV → OV := fun args => match args with | [.int .i64 f, .view [] (.prod (.int .i64) (.prod (.int .i64) (.prod (.int .i64) (.int .i64)))) to] => some ([], .fn (.func 16) [] [.vptr [] [.view [] CodeT to], .vptr [] [.int .i64 f]]) | _ => none
theorem turned_eq (f : Int) (to : List (den CodeT)) : acall tab fs_turnedR [] fns 100 20 9 [.int .i64 f, .view [] CodeT to] [] (fun o mm _ _ => resN (.any) mm o = .ret (.fn (.func 16) [] [.vptr [] [.view [] CodeT to], .vptr [] [.int .i64 f]])) =
  (AOut.ret (AV.fn (Fn.func 16) ([]) (AV.vptr [] (AV.view [] CodeT to :: []) :: AV.vptr [] (AV.int IntKind.i64 f :: []) :: [])) = AOut.ret (AV.fn (Fn.func 16) ([])
    (AV.vptr [] (AV.view [] CodeT to :: []) :: AV.vptr [] (AV.int IntKind.i64 f :: []) :: []))) := by kernel_rfl
theorem turned_ok : SpecOK Try.prog 9 (fspecS (pureN [.any, .sl CodeT] turnedS)) := pureN_ok (mkCall fsOK_turnedR specsOK_nil fnsOK) (.any) (fun vs w => Try.call9 vs w) fun args ps v h hp hw => by
  unfold turnedS at h
  split at h
  · cases h
    rename_i f to
    rw [turned_eq]
    refine ⟨?_⟩
    simp only [allP_cons, allP_nil, and_true] at hp
    simp only [wfAL, wfA, wfS, wfM, wfB, and_true, true_and, wfT_int, wfT_str, wfT_bool, wfT_prod] at hw
    rfl
  · cases h
noncomputable def FF_turned : FSpec := pureN [.any, .sl CodeT] turnedS
theorem FFok_turned : SpecOK Try.prog 9 (fspecS FF_turned) := turned_ok
noncomputable def fs_turned : FS := (9, FF_turned) :: fs_turnedR
theorem fsOK_turned : FSOK Try.prog fs_turned := fsOK_cons FFok_turned fsOK_turnedR
noncomputable def twinsS : List AV → OV := fun args => match args with | [.bool b] => some ([], .fn (.func 18) [] [.vptr [] [.bool b]]) | _ => none
theorem twins_eq (b : Bool) : acall tab fs_turned [] fns 100 20 11 [.bool b] [] (fun o mm _ _ => resN (.any) mm o = .ret (.fn (.func 18) [] [.vptr [] [.bool b]])) =
  (AOut.ret (AV.fn (Fn.func 18) ([]) (AV.vptr [] (AV.bool b :: []) :: [])) = AOut.ret (AV.fn (Fn.func 18) ([]) (AV.vptr [] (AV.bool b :: []) :: []))) := by kernel_rfl
theorem twins_ok : SpecOK Try.prog 11 (fspecS (pureN [] twinsS)) := pureN_ok (mkCall fsOK_turned specsOK_nil fnsOK) (.any) (fun vs w => Try.call11 vs w) fun args ps v h hp hw => by
  unfold twinsS at h
  split at h
  · cases h
    rename_i b
    rw [twins_eq]
    refine ⟨?_⟩
    simp only [allP_cons, allP_nil, and_true] at hp
    simp only [wfAL, wfA, wfS, wfM, wfB, and_true, true_and, wfT_int, wfT_str, wfT_bool, wfT_prod] at hw
    rfl
  · cases h
noncomputable def FF_twins : FSpec := pureN [] twinsS
theorem FFok_twins : SpecOK Try.prog 11 (fspecS FF_twins) := twins_ok
noncomputable def fs_twins : FS := (11, FF_twins) :: fs_turned
theorem fsOK_twins : FSOK Try.prog fs_twins := fsOK_cons FFok_twins fsOK_turned
noncomputable def idleS : List AV → OV := fun args => match args with | [.bool b] => some ([], .fn (.func 20) [] [.vptr [] [.bool b]]) | _ => none
theorem idle_eq (b : Bool) : acall tab fs_twins [] fns 100 20 12 [.bool b] [] (fun o mm _ _ => resN (.any) mm o = .ret (.fn (.func 20) [] [.vptr [] [.bool b]])) =
  (AOut.ret (AV.fn (Fn.func 20) ([]) (AV.vptr [] (AV.bool b :: []) :: [])) = AOut.ret (AV.fn (Fn.func 20) ([]) (AV.vptr [] (AV.bool b :: []) :: []))) := by kernel_rfl
theorem idle_ok : SpecOK Try.prog 12 (fspecS (pureN [] idleS)) := pureN_ok (mkCall fsOK_twins specsOK_nil fnsOK) (.any) (fun vs w => Try.call12 vs w) fun args ps v h hp hw => by
  unfold idleS at h
  split at h
  · cases h
    rename_i b
    rw [idle_eq]
    refine ⟨?_⟩
    simp only [allP_cons, allP_nil, and_true] at hp
    simp only [wfAL, wfA, wfS, wfM, wfB, and_true, true_and, wfT_int, wfT_str, wfT_bool, wfT_prod] at hw
    rfl
  · cases h
noncomputable def FF_idle : FSpec := pureN [] idleS
theorem FFok_idle : SpecOK Try.prog 12 (fspecS FF_idle) := idle_ok
noncomputable def fs_idle : FS := (12, FF_idle) :: fs_twins
theorem fsOK_idle : FSOK Try.prog fs_idle := fsOK_cons FFok_idle fsOK_twins
end Go.Proofs.Ytkdemkkepepbdaa.Sx

