/- Ors of formulas, and their cores: what the functions come to. -/
import Derived.Test.YtmdjpohmbkodeaaSmCoreA
namespace Go.Proofs.Ytmdjpohmbkodeaa.Sx
open Go.RowKit
set_option maxRecDepth 100000
set_option maxHeartbeats 4000000
set_option linter.unusedVariables false
set_option linter.unusedSimpArgs false
noncomputable def has1S : List AV → OV := fun args => match args with | [.view [] (.prod (.int .i64) (.prod (.int .i64) (.prod (.int .i64) (.prod (.int .i64) (.prod (.list (.prod .str (.int .i64))) (.int .i64)))))) a, .vptr [] [.view [] (.prod (.int .i64) (.prod (.int .i64) (.prod (.int .i64) (.prod (.int .i64) (.prod (.list (.prod .str (.int .i64))) (.int .i64)))))) b]] => some ([], .bool (sameF a b)) | _ => none
theorem has1_eq (a b : List (den NodeT)) : acall tab fs_csince specs_copiedS fns 100 20 97 [.view [] NodeT a, .vptr [] [.view [] NodeT b]] [] (fun o mm _ _ => resN (.any) mm o = .ret (.bool (sameF a b))) =
  (AOut.ret (AV.bool (sameF a b)) = AOut.ret (AV.bool (sameF a b))) := by kernel_rfl
theorem has1_ok : SpecOK Try.prog 97 (fspecS (pureN [.sl NodeT, .ag [.sl NodeT]] has1S)) := pureN_ok (mkCall fsOK_csince specsOK_copiedS fnsOK) (.any) (fun vs w => Try.call97 vs w) fun args ps v h hp hw => by
  unfold has1S at h
  split at h
  · cases h
    rename_i a b
    rw [has1_eq]
    refine ⟨?_⟩
    simp only [allP_cons, allP_nil, and_true] at hp
    simp only [wfAL, wfA, wfS, wfM, wfB, and_true, true_and, wfT_int, wfT_str, wfT_bool, wfT_prod] at hw
    first | (simp only [simpsL, implies_true, forall_const, if_true, if_false, reduceCtorEq]; done) | (simp only [simpsL, implies_true, forall_const, if_true, if_false, reduceCtorEq]; rfl)
  · cases h
noncomputable def FF_has1 : FSpec := pureN [.sl NodeT, .ag [.sl NodeT]] has1S
theorem FFok_has1 : SpecOK Try.prog 97 (fspecS FF_has1) := has1_ok
noncomputable def fs_has1 : FS := (97, FF_has1) :: fs_csince
theorem fsOK_has1 : FSOK Try.prog fs_has1 := fsOK_cons FFok_has1 fsOK_csince
def idxHas_p (m : List (den NodeT)) (x : den (.list NodeT)) : Bool := sameF x m
def idxHas_f (m : List (den NodeT)) (n : List (den (.list NodeT))) : Int := idxG (idxHas_p m) n 0
theorem idxHas_any (m : List (den NodeT)) (n : List (den (.list NodeT))) : leB 0 (idxHas_f m n) = n.any (idxHas_p m) := idxG_any (by omega)
abbrev X_idxHas := List (den (.list NodeT)) × Int × Int × Int × List (den NodeT)
def sh_idxHas : X_idxHas → St := fun x => match x with | (n, len, i, r, m) => ⟨setL (rep .bad 19) [(0, .view [] (.list NodeT) n), (7, .int .i64 len), (8, .int .i64 i), (1, .fn (.func 97) [] [.vptr [] [.view [] NodeT m]])], [], [], []⟩
def shr_idxHas : X_idxHas → St := fun x => match x with | (n, len, i, r, m) => ⟨setL (rep .bad 19) [(0, .view [] (.list NodeT) n), (7, .int .i64 len), (8, .int .i64 i), (4, .int .i64 r), (1, .fn (.func 97) [] [.vptr [] [.view [] NodeT m]])], [], [], []⟩
def sx_idxHas : AExit → X_idxHas → St := fun e => match e with | .ret => shr_idxHas | _ => sh_idxHas
def nx_idxHas (σ : St) : X_idxHas := (gV (.list NodeT) σ 0, gI σ 7, gI σ 8, gI σ 4, capV NodeT σ 1 0)
def Pre_idxHas : X_idxHas → Prop := fun x => match x with | (n, len, i, r, m) => i = 0 ∧ len = lenI n
def E0_idxHas : X_idxHas → X_idxHas → Prop := fun x y => match x, y with | (n0, len0, i0, r0, m0), (n, len, i, r, m) => (n = n0 ∧ len = len0 ∧ m = m0) ∧ (idxHas_f m n = -1)
def R_idxHas : X_idxHas → X_idxHas → Prop := fun x y => match x, y with | (n0, len0, i0, r0, m0), (n, len, i, r, m) => (n = n0 ∧ len = len0 ∧ m = m0) ∧ (r = idxHas_f m n)
def D_idxHas : X_idxHas → LEnds X_idxHas := fun x => ⟨[(0, E0_idxHas x)], R_idxHas x⟩
noncomputable def S_idxHas : Summ := summN sh_idxHas sx_idxHas nx_idxHas Pre_idxHas D_idxHas
def Inv_idxHas : X_idxHas → X_idxHas → Prop := fun x y => match x, y with | (n0, len0, i0, r0, m0), (n, len, i, r, m) => (n = n0 ∧ len = len0 ∧ m = m0) ∧ ((0 ≤ i ∧ i ≤ len) ∧ idxG (idxHas_p m) (n.drop i.toNat) i = idxHas_f m n)
def M_idxHas : X_idxHas → X_idxHas → Nat := fun x y => match x, y with | (n0, len0, i0, r0, m0), (n, len, i, r, m) => (len - i).toNat
theorem body_idxHas (Inv : X_idxHas → Prop) (meas : X_idxHas → Nat) (nn : Nat) (EE0 RR : X_idxHas → Prop) (n : List (den (.list NodeT))) (len : Int) (i : Int) (r : Int) (m : List (den NodeT)) : awp tab fs_has1 (acall tab fs_has1 specs_copiedS fns 100 20) [] 100 (loopAt Try.f104 2) (bodyN sh_idxHas sx_idxHas nx_idxHas Inv meas nn ⟨[(0, EE0)], RR⟩) (sh_idxHas (n, len, i, r, m)) =
  (ifB (ltB i len) (need (inI i (lenI n)) (ifB (sameF (nth NodeT.list n i) m) (eqD n n (need (AV.fn (Fn.func 97) (@List.nil AV) (AV.vptr (@List.nil Nat) (AV.view (@List.nil
    Nat) NodeT m :: @List.nil AV) :: @List.nil AV) = AV.fn (Fn.func 97) (@List.nil AV) (AV.vptr (@List.nil Nat) (AV.view (@List.nil Nat) NodeT m :: @List.nil AV) ::
    @List.nil AV)) (eqI i i (eqI len len (eqI i i (RR (n, len, i, i, m))))))) (eqD n n (need (AV.fn (Fn.func 97) (@List.nil AV) (AV.vptr (@List.nil Nat) (AV.view (@List.nil
    Nat) NodeT m :: @List.nil AV) :: @List.nil AV) = AV.fn (Fn.func 97) (@List.nil AV) (AV.vptr (@List.nil Nat) (AV.view (@List.nil Nat) NodeT m :: @List.nil AV) ::
    @List.nil AV)) (eqI len len (eqI (addW IntKind.i64 i 1) (addW IntKind.i64 i 1) (Inv (n, len, addW IntKind.i64 i 1, 0, m) ∧ meas (n, len, addW IntKind.i64 i 1, 0,
    m) < nn))))))) (eqD n n (need (AV.fn (Fn.func 97) (@List.nil AV) (AV.vptr (@List.nil Nat) (AV.view (@List.nil Nat) NodeT m :: @List.nil AV) :: @List.nil AV) = AV.fn
    (Fn.func 97) (@List.nil AV) (AV.vptr (@List.nil Nat) (AV.view (@List.nil Nat) NodeT m :: @List.nil AV) :: @List.nil AV)) (eqI len len (eqI i i (EE0 (n, len, i, 0,
    m))))))) := by kernel_rfl
theorem body_idxHas_ok : ∀ x y, Pre_idxHas x → Inv_idxHas x y → wfS (sh_idxHas y) → Hd (awp tab fs_has1 (acall tab fs_has1 specs_copiedS fns 100 20) [] 100 (loopAt Try.f104 2) (bodyN sh_idxHas sx_idxHas nx_idxHas (Inv_idxHas x) (M_idxHas x) (M_idxHas x y) (D_idxHas x)) (sh_idxHas y)) := by
  rintro ⟨n0, len0, i0, r0, m0⟩ ⟨n, len, i, r, m⟩ hp hI hw
  obtain ⟨⟨rfl, rfl, rfl⟩, hI⟩ := hI
  have hw_n := wfL_view hw 0 rfl
  have hw_len := wfL_int hw 7 rfl
  have hw_i := wfL_int hw 8 rfl
  have hp : i0 = 0 ∧ len = lenI n := hp
  unfold D_idxHas
  rw [body_idxHas]
  refine ⟨?_⟩
  have hInv : ∀ (i : Int) (r : Int), ((0 ≤ i ∧ i ≤ len) ∧ idxG (idxHas_p m) (n.drop i.toNat) i = idxHas_f m n) → Inv_idxHas (n, len, i0, r0, m) (n, len, i, r, m) := fun _ _ h => ⟨⟨rfl, rfl, rfl⟩, h⟩
  generalize hIe : Inv_idxHas (n, len, i0, r0, m) = Inv at hInv ⊢
  have hMe : ∀ (i : Int) (r : Int), M_idxHas (n, len, i0, r0, m) (n, len, i, r, m) = (len - i).toNat := fun _ _ => rfl
  generalize M_idxHas (n, len, i0, r0, m) = Me at hMe ⊢
  have hE0 : ∀ (i : Int) (r : Int), (idxHas_f m n = -1) → E0_idxHas (n, len, i0, r0, m) (n, len, i, r, m) := fun _ _ h => ⟨⟨rfl, rfl, rfl⟩, h⟩
  generalize E0_idxHas (n, len, i0, r0, m) = EE0 at hE0 ⊢
  have hR : ∀ (i : Int) (r : Int), (r = idxHas_f m n) → R_idxHas (n, len, i0, r0, m) (n, len, i, r, m) := fun _ _ h => ⟨⟨rfl, rfl, rfl⟩, h⟩
  generalize R_idxHas (n, len, i0, r0, m) = RR at hR ⊢
  obtain ⟨hi, hI⟩ := hI
  obtain ⟨p1, rfl⟩ := hp
  by_cases hlt : i < lenI n
  · rw [drop_nth (t := (.list NodeT)) hi.1 hlt] at hI
    simp only [idxG] at hI
    have hlen := wfT_len hw_n
    have hwx := wfT_nth hw_n hi.1 hlt
    have ei : addW .i64 i 1 = i + 1 := addW64 (by omega) (by omega)
    have hin : inI i (lenI n) := ⟨hi.1, hlt⟩
    cases hb : idxHas_p m (nth (.list NodeT) n i)
    · rw [hb] at hI
      have hb2 := hb
      unfold idxHas_p at hb2
      simp only [ltB_t.2 hlt, hb2, hin, ei, hMe, simpsL, implies_true, forall_const, if_true, if_false, reduceCtorEq] at hI ⊢
      (repeat' (first | with_reducible rfl | assumption | omega | (apply Eq.symm; assumption) | (simp only [hMe]; omega) | (exact lenI_nn _) | trivial | (refine hInv _ ?_) | (refine hInv _ _ ?_) | (refine hInv _ _ _ ?_) | (refine hInv _ _ _ _ ?_) | (refine hE0 _ ?_) | (refine hE0 _ _ ?_) | (refine hE0 _ _ _ ?_) | (refine hE0 _ _ _ _ ?_) | (refine hR _ ?_) | (refine hR _ _ ?_) | (refine hR _ _ _ ?_) | (refine hR _ _ _ _ ?_) | refine ⟨?_, ?_⟩ | intro _))
    · rw [hb] at hI
      have hb2 := hb
      unfold idxHas_p at hb2
      simp only [ltB_t.2 hlt, hb2, hin, ei, hMe, simpsL, implies_true, forall_const, if_true, if_false, reduceCtorEq] at hI ⊢
      (repeat' (first | with_reducible rfl | assumption | omega | (apply Eq.symm; assumption) | (simp only [hMe]; omega) | (exact lenI_nn _) | trivial | (refine hInv _ ?_) | (refine hInv _ _ ?_) | (refine hInv _ _ _ ?_) | (refine hInv _ _ _ _ ?_) | (refine hE0 _ ?_) | (refine hE0 _ _ ?_) | (refine hE0 _ _ _ ?_) | (refine hE0 _ _ _ _ ?_) | (refine hR _ ?_) | (refine hR _ _ ?_) | (refine hR _ _ _ ?_) | (refine hR _ _ _ _ ?_) | refine ⟨?_, ?_⟩ | intro _))
  · rw [drop_all (by omega)] at hI
    simp only [idxG] at hI
    rw [ltB_f.2 (Int.not_lt.1 hlt)]
    simp only [simpsL, implies_true, forall_const, if_true, if_false, reduceCtorEq]
    (repeat' (first | with_reducible rfl | assumption | omega | (apply Eq.symm; assumption) | (simp only [hMe]; omega) | (exact lenI_nn _) | trivial | (refine hInv _ ?_) | (refine hInv _ _ ?_) | (refine hInv _ _ _ ?_) | (refine hInv _ _ _ _ ?_) | (refine hE0 _ ?_) | (refine hE0 _ _ ?_) | (refine hE0 _ _ _ ?_) | (refine hE0 _ _ _ _ ?_) | (refine hR _ ?_) | (refine hR _ _ ?_) | (refine hR _ _ _ ?_) | (refine hR _ _ _ _ ?_) | refine ⟨?_, ?_⟩ | intro _))
theorem summ_idxHas : SummOK Try.prog (loopAt Try.f104 2) S_idxHas :=
  summN_ok (L := []) (fuel := 100) tabOK fsOK_has1 (mkCall fsOK_has1 specsOK_copiedS fnsOK) (fun C => mkDraw fsOK_has1 (mkCall fsOK_has1 specsOK_copiedS fnsOK) C) loopsOK_nil Inv_idxHas M_idxHas
    (fun x hp hw => by
      obtain ⟨n, len, i, r, m⟩ := x
      have hp : i = 0 ∧ len = lenI n := hp
      have hw_n := wfL_view hw 0 rfl
      have hw_len := wfL_int hw 7 rfl
      have hw_i := wfL_int hw 8 rfl
      obtain ⟨rfl, rfl⟩ := hp
      exact ⟨⟨rfl, rfl, rfl⟩, ⟨by omega, lenI_nn _⟩, rfl⟩)
    (body_idxHas_ok)
noncomputable def fns_idxHas : Fns := (104, Try.f104, [(2, S_idxHas)]) :: fns
theorem fn_idxHas : FnOK Try.prog 104 Try.f104 [(2, S_idxHas)] := fnOK_loops Try.func104 (fun vs w => Try.call104 vs w) (by kernel_rfl) fun k S h => by
  simp only [List.mem_cons, Prod.mk.injEq, List.not_mem_nil, or_false] at h
  obtain ⟨rfl, rfl⟩ := h
  exact summ_idxHas
theorem fns_idxHasOK : FnsOK Try.prog fns_idxHas := fnsOK_cons fn_idxHas fnsOK
noncomputable def idxHasS : List AV → OV := fun args => match args with | [.view [] (.list (.prod (.int .i64) (.prod (.int .i64) (.prod (.int .i64) (.prod (.int .i64) (.prod (.list (.prod .str (.int .i64))) (.int .i64))))))) n, .fn (.func 97) [] [.vptr [] [.view [] (.prod (.int .i64) (.prod (.int .i64) (.prod (.int .i64) (.prod (.int .i64) (.prod (.list (.prod .str (.int .i64))) (.int .i64)))))) m]]] => some ([], .int .i64 (idxHas_f m n)) | _ => none
theorem idxHas_eq (m : List (den NodeT)) (n : List (den (.list NodeT))) : acall tab fs_has1 specs_copiedS fns_idxHas 100 20 104 [.view [] (.list NodeT) n, .fn (.func 97) [] [.vptr [] [.view [] NodeT m]]] [] (fun o mm _ _ => resN (.any) mm o = .ret (.int .i64 (idxHas_f m n))) =
  (eqD n n (need (AV.fn (Fn.func 97) (@List.nil AV) (AV.vptr (@List.nil Nat) (AV.view (@List.nil Nat) NodeT m :: @List.nil AV) :: @List.nil AV) = AV.fn (Fn.func 97)
    (@List.nil AV) (AV.vptr (@List.nil Nat) (AV.view (@List.nil Nat) NodeT m :: @List.nil AV) :: @List.nil AV)) (eqI (lenI n) (lenI n) (eqI 0 0 (((0 : Int) = 0 ∧ lenI
    n = lenI n) ∧ ((∀ (y : X_idxHas), (y.1 = n ∧ y.2.1 = lenI n ∧ y.2.2.2.2 = m) ∧ idxHas_f y.2.2.2.2 y.1 = -1 → AOut.ret (AV.int IntKind.i64 (-1)) = AOut.ret (AV.int
    IntKind.i64 (idxHas_f m n))) ∧ True) ∧ ∀ (y : X_idxHas), (y.1 = n ∧ y.2.1 = lenI n ∧ y.2.2.2.2 = m) ∧ y.2.2.2.1 = idxHas_f y.2.2.2.2 y.1 → AOut.ret (AV.int IntKind.i64
    y.2.2.2.1) = AOut.ret (AV.int IntKind.i64 (idxHas_f m n))))))) := by kernel_rfl
theorem idxHas_ok : SpecOK Try.prog 104 (fspecS (pureN [.sl (.list NodeT)] idxHasS)) := pureN_ok (mkCall fsOK_has1 specsOK_copiedS fns_idxHasOK) (.any) (fun vs w => Try.call104 vs w) fun args ps v h hp hw => by
  unfold idxHasS at h
  split at h
  · cases h
    rename_i m n
    rw [idxHas_eq]
    refine ⟨?_⟩
    simp only [allP_cons, allP_nil, and_true] at hp
    simp only [wfAL, wfA, wfS, wfM, wfB, and_true, true_and, wfT_int, wfT_str, wfT_bool, wfT_prod] at hw
    simp only [simpsL, implies_true, forall_const, if_true, if_false, reduceCtorEq]
    (repeat' (first | with_reducible rfl | assumption | omega | trivial | (rintro y ⟨hk, hx⟩; simp_all; done) | refine ⟨?_, ?_⟩ | intro _))
  · cases h
noncomputable def FF_idxHas : FSpec := pureN [.sl (.list NodeT)] idxHasS
theorem FFok_idxHas : SpecOK Try.prog 104 (fspecS FF_idxHas) := idxHas_ok
noncomputable def fs_idxHas : FS := (104, FF_idxHas) :: fs_has1
theorem fsOK_idxHas : FSOK Try.prog fs_idxHas := fsOK_cons FFok_idxHas fsOK_has1
def hasF (l : List (List (den NodeT))) (n : List (den NodeT)) : Bool := l.any (fun m => sameF m n)
noncomputable def hasS : List AV → OV := fun args => match args with | [.view [] (.list (.prod (.int .i64) (.prod (.int .i64) (.prod (.int .i64) (.prod (.int .i64) (.prod (.list (.prod .str (.int .i64))) (.int .i64))))))) l, .view [] (.prod (.int .i64) (.prod (.int .i64) (.prod (.int .i64) (.prod (.int .i64) (.prod (.list (.prod .str (.int .i64))) (.int .i64)))))) n] => some ([], .bool (hasF l n)) | _ => none
theorem has_eq (l : List (List (den NodeT))) (n : List (den NodeT)) : acall tab fs_idxHas specs_copiedS fns 100 20 88 [.view [] (.list NodeT) l, .view [] NodeT n] [] (fun o mm _ _ => resN (.any) mm o = .ret (.bool (hasF l n))) =
  (AOut.ret (AV.bool (leB 0 (idxHas_f n l))) = AOut.ret (AV.bool (hasF l n))) := by kernel_rfl
theorem has_ok : SpecOK Try.prog 88 (fspecS (pureN [.sl (.list NodeT), .sl NodeT] hasS)) := pureN_ok (mkCall fsOK_idxHas specsOK_copiedS fnsOK) (.any) (fun vs w => Try.call88 vs w) fun args ps v h hp hw => by
  unfold hasS at h
  split at h
  · cases h
    rename_i l n
    rw [has_eq]
    refine ⟨?_⟩
    simp only [allP_cons, allP_nil, and_true] at hp
    simp only [wfAL, wfA, wfS, wfM, wfB, and_true, true_and, wfT_int, wfT_str, wfT_bool, wfT_prod] at hw
    have e := idxHas_any n l
    simp only [leB] at e
    simp only [simpsL, implies_true, forall_const, if_true, if_false, reduceCtorEq]
    rw [e]
    rfl
  · cases h
noncomputable def FF_has : FSpec := pureN [.sl (.list NodeT), .sl NodeT] hasS
theorem FFok_has : SpecOK Try.prog 88 (fspecS FF_has) := has_ok
noncomputable def fs_has : FS := (88, FF_has) :: fs_idxHas
theorem fsOK_has : FSOK Try.prog fs_has := fsOK_cons FFok_has fsOK_idxHas
def allF (l : List (List (den NodeT))) : List (List (den NodeT)) := l.flatMap fun n => if isOpF n 5 = true then partsF n else [n]
def dedG : List (List (den NodeT)) → List (List (den NodeT)) → List (List (den NodeT))
  | out, [] => out
  | out, n :: l => if isOpF n 1 = true ∨ hasF out n = true then dedG out l else dedG (out ++ [n]) l
def partsAll (l : List (List (den NodeT))) : List (List (den NodeT)) := allF l
def dedF (l : List (List (den NodeT))) : List (List (den NodeT)) := dedG [] l
def flatF (l : List (List (den NodeT))) : List (List (den NodeT)) := dedG [] (allF l)
def allSmall (l : List (List (den NodeT))) : Prop := (∀ n ∈ l, smallL n) ∧ lenI l ≤ 1000000 ∧ lenI (allF l) ≤ 1000000
abbrev X_flatL1 := List (den (.list NodeT)) × List (den (.list NodeT)) × Int × Int
def sh_flatL1 : X_flatL1 → St := fun x => match x with | (out, l, len, i) => ⟨setL (rep .bad 47) [(9, .view [] (.list NodeT) l), (10, .int .i64 len), (11, .int .i64 i), (3, .own 0), (4, .nsl true)], [.row 28 (.list NodeT) out []], [0, 1], [0, 1]⟩
def sx_flatL1 : AExit → X_flatL1 → St := fun _ => sh_flatL1
def nx_flatL1 (σ : St) : X_flatL1 := (rV (.list NodeT) σ 0, gV (.list NodeT) σ 9, gI σ 10, gI σ 11)
def Pre_flatL1 : X_flatL1 → Prop := fun x => match x with | (out, l, len, i) => i = 0 ∧ len = lenI l ∧ allSmall l ∧ out = []
def E0_flatL1 : X_flatL1 → X_flatL1 → Prop := fun x y => match x, y with | (out0, l0, len0, i0), (out, l, len, i) => (l = l0 ∧ len = len0) ∧ (out = partsAll l)
def R_flatL1 : X_flatL1 → X_flatL1 → Prop := fun x y => match x, y with | (out0, l0, len0, i0), (out, l, len, i) => (l = l0 ∧ len = len0) ∧ (False)
def D_flatL1 : X_flatL1 → LEnds X_flatL1 := fun x => ⟨[(0, E0_flatL1 x)], R_flatL1 x⟩
noncomputable def S_flatL1 : Summ := summN sh_flatL1 sx_flatL1 nx_flatL1 Pre_flatL1 D_flatL1
def Inv_flatL1 : X_flatL1 → X_flatL1 → Prop := fun x y => match x, y with | (out0, l0, len0, i0), (out, l, len, i) => (l = l0 ∧ len = len0) ∧ ((0 ≤ i ∧ i ≤ len) ∧ out ++ allF (l.drop i.toNat) = partsAll l)
def M_flatL1 : X_flatL1 → X_flatL1 → Nat := fun x y => match x, y with | (out0, l0, len0, i0), (out, l, len, i) => (len - i).toNat
theorem body_flatL1 (Inv : X_flatL1 → Prop) (meas : X_flatL1 → Nat) (nn : Nat) (EE0 RR : X_flatL1 → Prop) (out : List (den (.list NodeT))) (l : List (den (.list NodeT))) (len : Int) (i : Int) : awp tab fs_has (acall tab fs_has specs_copiedS fns 100 20) [] 100 (loopAt Try.f87 3) (bodyN sh_flatL1 sx_flatL1 nx_flatL1 Inv meas nn ⟨[(0, EE0)], RR⟩) (sh_flatL1 (out, l, len, i)) =
  (ifB (ltB i len) (need (inI i (lenI l)) (ifB (isOpF (nth NodeT.list l i) 5) (need (smallL (nth NodeT.list l i)) (need (fitA (lenI out + lenI (partsF (nth NodeT.list
    l i)))) (need (AV.nsl true = AV.nsl true) (eqD l l (eqI len len (eqI (addW IntKind.i64 i 1) (addW IntKind.i64 i 1) (eqD (appL out (partsF (nth NodeT.list l i)))
    (appL out (partsF (nth NodeT.list l i))) (Inv (appL out (partsF (nth NodeT.list l i)), l, len, addW IntKind.i64 i 1) ∧ meas (appL out (partsF (nth NodeT.list l i)),
    l, len, addW IntKind.i64 i 1) < nn)))))))) (need (fitA (lenI out + 1)) (need (AV.nsl true = AV.nsl true) (eqD l l (eqI len len (eqI (addW IntKind.i64 i 1) (addW
    IntKind.i64 i 1) (eqD (appL out (nth NodeT.list l i :: @List.nil (den NodeT.list))) (appL out (nth NodeT.list l i :: @List.nil (den NodeT.list))) (Inv (appL out
    (nth NodeT.list l i :: @List.nil (den NodeT.list)), l, len, addW IntKind.i64 i 1) ∧ meas (appL out (nth NodeT.list l i :: @List.nil (den NodeT.list)), l, len, addW
    IntKind.i64 i 1) < nn))))))))) (need (AV.nsl true = AV.nsl true) (eqD l l (eqI len len (eqI i i (eqD out out (EE0 (out, l, len, i)))))))) := by kernel_rfl
theorem body_flatL1_ok : ∀ x y, Pre_flatL1 x → Inv_flatL1 x y → wfS (sh_flatL1 y) → Hd (awp tab fs_has (acall tab fs_has specs_copiedS fns 100 20) [] 100 (loopAt Try.f87 3) (bodyN sh_flatL1 sx_flatL1 nx_flatL1 (Inv_flatL1 x) (M_flatL1 x) (M_flatL1 x y) (D_flatL1 x)) (sh_flatL1 y)) := by
  rintro ⟨out0, l0, len0, i0⟩ ⟨out, l, len, i⟩ hp hI hw
  obtain ⟨⟨rfl, rfl⟩, hI⟩ := hI
  have hw_out := wfR_row hw 0 rfl
  have hw_l := wfL_view hw 9 rfl
  have hw_len := wfL_int hw 10 rfl
  have hw_i := wfL_int hw 11 rfl
  have hp : i0 = 0 ∧ len = lenI l ∧ allSmall l ∧ out0 = [] := hp
  unfold D_flatL1
  rw [body_flatL1]
  refine ⟨?_⟩
  have hInv : ∀ (out : List (den (.list NodeT))) (i : Int), ((0 ≤ i ∧ i ≤ len) ∧ out ++ allF (l.drop i.toNat) = partsAll l) → Inv_flatL1 (out0, l, len, i0) (out, l, len, i) := fun _ _ h => ⟨⟨rfl, rfl⟩, h⟩
  generalize hIe : Inv_flatL1 (out0, l, len, i0) = Inv at hInv ⊢
  have hMe : ∀ (out : List (den (.list NodeT))) (i : Int), M_flatL1 (out0, l, len, i0) (out, l, len, i) = (len - i).toNat := fun _ _ => rfl
  generalize M_flatL1 (out0, l, len, i0) = Me at hMe ⊢
  have hE0 : ∀ (out : List (den (.list NodeT))) (i : Int), (out = partsAll l) → E0_flatL1 (out0, l, len, i0) (out, l, len, i) := fun _ _ h => ⟨⟨rfl, rfl⟩, h⟩
  generalize E0_flatL1 (out0, l, len, i0) = EE0 at hE0 ⊢
  have hR : ∀ (out : List (den (.list NodeT))) (i : Int), (False) → R_flatL1 (out0, l, len, i0) (out, l, len, i) := fun _ _ h => ⟨⟨rfl, rfl⟩, h⟩
  generalize R_flatL1 (out0, l, len, i0) = RR at hR ⊢
  obtain ⟨hi, hI⟩ := hI
  obtain ⟨p1, rfl, p3, p4⟩ := hp
  have hlen := wfT_len hw_l
  by_cases hlt : i < lenI l
  · have ei : addW .i64 i 1 = i + 1 := addW64 (by omega) (by omega)
    have hin : inI i (lenI l) := ⟨hi.1, hlt⟩
    have hmem := nth_mem (t := .list NodeT) hi.1 hlt
    obtain ⟨p3a, p3b, p3c⟩ := p3
    have hs := p3a _ hmem
    rw [drop_nth (t := .list NodeT) hi.1 hlt] at hI
    obtain ⟨x, hx⟩ : ∃ x : List (den NodeT), nth (.list NodeT) l i = x := ⟨_, rfl⟩
    simp only [hx] at hI hs ⊢
    simp only [allF, List.flatMap_cons] at hI
    have hb := congrArg lenI hI
    unfold partsAll at hb
    simp only [lenI_app] at hb
    have hq := lenI_nn ((l.drop (i + 1).toNat).flatMap fun n => if isOpF n 5 = true then partsF n else [n])
    cases h5 : isOpF x 5 with
    | true =>
      rw [h5] at hI hb
      simp only [if_true] at hI hb
      have hfit : fitA (lenI out + lenI (partsF x)) := by unfold fitA; omega
      simp only [ltB_t.2 hlt, hin, hs, hfit, ei, simpsL, implies_true, forall_const, if_true, if_false, reduceCtorEq]
      refine ⟨hInv _ _ ⟨⟨by omega, by omega⟩, ?_⟩, by simp only [hMe]; omega⟩
      rw [List.append_assoc]; exact hI
    | false =>
      rw [h5] at hI hb
      simp only [Bool.false_eq_true, if_false] at hI hb
      have h1 : lenI [x] = 1 := rfl
      have hfit : fitA (lenI out + 1) := by unfold fitA; omega
      simp only [ltB_t.2 hlt, hin, hfit, ei, simpsL, implies_true, forall_const, if_true, if_false, reduceCtorEq]
      refine ⟨hInv _ _ ⟨⟨by omega, by omega⟩, ?_⟩, by simp only [hMe]; omega⟩
      rw [List.append_assoc]; exact hI
  · rw [drop_all (by omega)] at hI
    simp only [allF, List.flatMap_nil, List.append_nil] at hI
    simp only [ltB_f.2 (Int.not_lt.1 hlt), simpsL, implies_true, forall_const, if_true, if_false, reduceCtorEq]
    exact hE0 _ _ hI
theorem summ_flatL1 : SummOK Try.prog (loopAt Try.f87 3) S_flatL1 :=
  summN_ok (L := []) (fuel := 100) tabOK fsOK_has (mkCall fsOK_has specsOK_copiedS fnsOK) (fun C => mkDraw fsOK_has (mkCall fsOK_has specsOK_copiedS fnsOK) C) loopsOK_nil Inv_flatL1 M_flatL1
    (fun x hp hw => by
      obtain ⟨out, l, len, i⟩ := x
      have hp : i = 0 ∧ len = lenI l ∧ allSmall l ∧ out = [] := hp
      have hw_out := wfR_row hw 0 rfl
      have hw_l := wfL_view hw 9 rfl
      have hw_len := wfL_int hw 10 rfl
      have hw_i := wfL_int hw 11 rfl
      obtain ⟨rfl, rfl, h, rfl⟩ := hp
      exact ⟨⟨rfl, rfl⟩, ⟨by omega, lenI_nn _⟩, rfl⟩)
    (body_flatL1_ok)
abbrev X_flatL2 := List (den (.list NodeT)) × List (den (.list NodeT)) × Int × Int
def sh_flatL2 : X_flatL2 → St := fun x => match x with | (out, l, len, i) => ⟨setL (rep .bad 47) [(27, .int .i64 len), (28, .int .i64 i), (26, .own 0), (4, .own 1)], [.row 28 (.list NodeT) l [], .row 28 (.list NodeT) out []], [0, 1, 2], [0, 1, 2]⟩
def sx_flatL2 : AExit → X_flatL2 → St := fun _ => sh_flatL2
def nx_flatL2 (σ : St) : X_flatL2 := (rV (.list NodeT) σ 1, rV (.list NodeT) σ 0, gI σ 27, gI σ 28)
def Pre_flatL2 : X_flatL2 → Prop := fun x => match x with | (out, l, len, i) => i = 0 ∧ len = lenI l ∧ lenI l ≤ 1000000 ∧ out = []
def E2_flatL2 : X_flatL2 → X_flatL2 → Prop := fun x y => match x, y with | (out0, l0, len0, i0), (out, l, len, i) => (l = l0 ∧ len = len0) ∧ (out = dedF l)
def R_flatL2 : X_flatL2 → X_flatL2 → Prop := fun x y => match x, y with | (out0, l0, len0, i0), (out, l, len, i) => (l = l0 ∧ len = len0) ∧ (False)
def D_flatL2 : X_flatL2 → LEnds X_flatL2 := fun x => ⟨[(2, E2_flatL2 x)], R_flatL2 x⟩
noncomputable def S_flatL2 : Summ := summN sh_flatL2 sx_flatL2 nx_flatL2 Pre_flatL2 D_flatL2
def Inv_flatL2 : X_flatL2 → X_flatL2 → Prop := fun x y => match x, y with | (out0, l0, len0, i0), (out, l, len, i) => (l = l0 ∧ len = len0) ∧ ((0 ≤ i ∧ i ≤ len) ∧ lenI out ≤ i ∧ dedG out (l.drop i.toNat) = dedF l)
def M_flatL2 : X_flatL2 → X_flatL2 → Nat := fun x y => match x, y with | (out0, l0, len0, i0), (out, l, len, i) => (len - i).toNat
theorem body_flatL2 (Inv : X_flatL2 → Prop) (meas : X_flatL2 → Nat) (nn : Nat) (EE2 RR : X_flatL2 → Prop) (out : List (den (.list NodeT))) (l : List (den (.list NodeT))) (len : Int) (i : Int) : awp tab fs_has (acall tab fs_has specs_copiedS fns 100 20) [] 100 (loopAt Try.f87 10) (bodyN sh_flatL2 sx_flatL2 nx_flatL2 Inv meas nn ⟨[(2, EE2)], RR⟩) (sh_flatL2 (out, l, len, i)) =
  (ifB (ltB i len) (need (inI i (lenI l)) (need (inI i (lenI l)) (ifB (selB (notB (isOpF (nth NodeT.list l i) 1)) (notB (hasF out (nth NodeT.list l i))) false) (need
    (fitA (lenI out + 1)) (eqI len len (eqI (addW IntKind.i64 i 1) (addW IntKind.i64 i 1) (eqD l l (eqD (appL out (nth NodeT.list l i :: @List.nil (den NodeT.list)))
    (appL out (nth NodeT.list l i :: @List.nil (den NodeT.list))) (Inv (appL out (nth NodeT.list l i :: @List.nil (den NodeT.list)), l, len, addW IntKind.i64 i 1) ∧
    meas (appL out (nth NodeT.list l i :: @List.nil (den NodeT.list)), l, len, addW IntKind.i64 i 1) < nn)))))) (eqI len len (eqI (addW IntKind.i64 i 1) (addW IntKind.i64
    i 1) (eqD l l (eqD out out (Inv (out, l, len, addW IntKind.i64 i 1) ∧ meas (out, l, len, addW IntKind.i64 i 1) < nn)))))))) (eqI len len (eqI i i (eqD l l (eqD out
    out (EE2 (out, l, len, i))))))) := by kernel_rfl
theorem body_flatL2_ok : ∀ x y, Pre_flatL2 x → Inv_flatL2 x y → wfS (sh_flatL2 y) → Hd (awp tab fs_has (acall tab fs_has specs_copiedS fns 100 20) [] 100 (loopAt Try.f87 10) (bodyN sh_flatL2 sx_flatL2 nx_flatL2 (Inv_flatL2 x) (M_flatL2 x) (M_flatL2 x y) (D_flatL2 x)) (sh_flatL2 y)) := by
  rintro ⟨out0, l0, len0, i0⟩ ⟨out, l, len, i⟩ hp hI hw
  obtain ⟨⟨rfl, rfl⟩, hI⟩ := hI
  have hw_out := wfR_row hw 1 rfl
  have hw_l := wfR_row hw 0 rfl
  have hw_len := wfL_int hw 27 rfl
  have hw_i := wfL_int hw 28 rfl
  have hp : i0 = 0 ∧ len = lenI l ∧ lenI l ≤ 1000000 ∧ out0 = [] := hp
  unfold D_flatL2
  rw [body_flatL2]
  refine ⟨?_⟩
  have hInv : ∀ (out : List (den (.list NodeT))) (i : Int), ((0 ≤ i ∧ i ≤ len) ∧ lenI out ≤ i ∧ dedG out (l.drop i.toNat) = dedF l) → Inv_flatL2 (out0, l, len, i0) (out, l, len, i) := fun _ _ h => ⟨⟨rfl, rfl⟩, h⟩
  generalize hIe : Inv_flatL2 (out0, l, len, i0) = Inv at hInv ⊢
  have hMe : ∀ (out : List (den (.list NodeT))) (i : Int), M_flatL2 (out0, l, len, i0) (out, l, len, i) = (len - i).toNat := fun _ _ => rfl
  generalize M_flatL2 (out0, l, len, i0) = Me at hMe ⊢
  have hE2 : ∀ (out : List (den (.list NodeT))) (i : Int), (out = dedF l) → E2_flatL2 (out0, l, len, i0) (out, l, len, i) := fun _ _ h => ⟨⟨rfl, rfl⟩, h⟩
  generalize E2_flatL2 (out0, l, len, i0) = EE2 at hE2 ⊢
  have hR : ∀ (out : List (den (.list NodeT))) (i : Int), (False) → R_flatL2 (out0, l, len, i0) (out, l, len, i) := fun _ _ h => ⟨⟨rfl, rfl⟩, h⟩
  generalize R_flatL2 (out0, l, len, i0) = RR at hR ⊢
  obtain ⟨hi, ho, hI⟩ := hI
  obtain ⟨p1, rfl, p3, p4⟩ := hp
  have hlen := wfT_len hw_l
  by_cases hlt : i < lenI l
  · have ei : addW .i64 i 1 = i + 1 := addW64 (by omega) (by omega)
    have hin : inI i (lenI l) := ⟨hi.1, hlt⟩
    rw [drop_nth (t := .list NodeT) hi.1 hlt] at hI
    obtain ⟨x, hx⟩ : ∃ x : List (den NodeT), nth (.list NodeT) l i = x := ⟨_, rfl⟩
    simp only [hx] at hI ⊢
    simp only [dedG] at hI
    have hfit : fitA (lenI out + 1) := by unfold fitA; omega
    by_cases hc : isOpF x 1 = true ∨ hasF out x = true
    · rw [if_pos hc] at hI
      have hb : selB (notB (isOpF x 1)) (notB (hasF out x)) false = false := by
        rcases hc with h | h <;> simp [selB, notB, h] <;> cases isOpF x 1 <;> rfl
      simp only [hb]
      simp only [ltB_t.2 hlt, hin, hfit, ei, simpsL, implies_true, forall_const, if_true, if_false, reduceCtorEq]
      refine ⟨hInv _ _ ⟨⟨by omega, by omega⟩, by omega, hI⟩, by simp only [hMe]; omega⟩
    · rw [if_neg hc] at hI
      have hc' : isOpF x 1 = false ∧ hasF out x = false := by
        constructor
        · cases h : isOpF x 1 with | false => rfl | true => exact absurd (.inl h) hc
        · cases h : hasF out x with | false => rfl | true => exact absurd (.inr h) hc
      have hb : selB (notB (isOpF x 1)) (notB (hasF out x)) false = true := by simp [selB, notB, hc'.1, hc'.2]
      simp only [hb]
      simp only [ltB_t.2 hlt, hin, hfit, ei, simpsL, implies_true, forall_const, if_true, if_false, reduceCtorEq]
      refine ⟨hInv _ _ ⟨⟨by omega, by omega⟩, by rw [len_snoc]; omega, hI⟩, by simp only [hMe]; omega⟩
  · rw [drop_all (by omega)] at hI
    simp only [dedG] at hI
    simp only [ltB_f.2 (Int.not_lt.1 hlt), simpsL, implies_true, forall_const, if_true, if_false, reduceCtorEq]
    exact hE2 _ _ hI
theorem summ_flatL2 : SummOK Try.prog (loopAt Try.f87 10) S_flatL2 :=
  summN_ok (L := []) (fuel := 100) tabOK fsOK_has (mkCall fsOK_has specsOK_copiedS fnsOK) (fun C => mkDraw fsOK_has (mkCall fsOK_has specsOK_copiedS fnsOK) C) loopsOK_nil Inv_flatL2 M_flatL2
    (fun x hp hw => by
      obtain ⟨out, l, len, i⟩ := x
      have hp : i = 0 ∧ len = lenI l ∧ lenI l ≤ 1000000 ∧ out = [] := hp
      have hw_out := wfR_row hw 1 rfl
      have hw_l := wfR_row hw 0 rfl
      have hw_len := wfL_int hw 27 rfl
      have hw_i := wfL_int hw 28 rfl
      obtain ⟨rfl, rfl, h, rfl⟩ := hp
      exact ⟨⟨rfl, rfl⟩, ⟨by omega, lenI_nn _⟩, by decide, rfl⟩)
    (body_flatL2_ok)
noncomputable def fns_flat : Fns := (87, Try.f87, [(3, S_flatL1), (10, S_flatL2)]) :: fns
theorem fn_flat : FnOK Try.prog 87 Try.f87 [(3, S_flatL1), (10, S_flatL2)] := fnOK_loops Try.func87 (fun vs w => Try.call87 vs w) (by kernel_rfl) fun k S h => by
  simp only [List.mem_cons, Prod.mk.injEq, List.not_mem_nil, or_false] at h
  rcases h with ⟨rfl, rfl⟩ | ⟨rfl, rfl⟩
  · exact summ_flatL1
  · exact summ_flatL2
theorem fns_flatOK : FnsOK Try.prog fns_flat := fnsOK_cons fn_flat fnsOK
noncomputable def flatS : List AV → OV := fun args => match args with | [.view [] (.list (.prod (.int .i64) (.prod (.int .i64) (.prod (.int .i64) (.prod (.int .i64) (.prod (.list (.prod .str (.int .i64))) (.int .i64))))))) l] => some ([allSmall l], .view [] (.list NodeT) (flatF l)) | _ => none
theorem flat_eq (l : List (List (den NodeT))) : acall tab fs_has specs_copiedS fns_flat 100 20 87 [.view [] (.list NodeT) l] [] (fun o mm _ _ => resN (.sl (.list NodeT)) mm o = .ret (.view [] (.list NodeT) (flatF l))) =
  (need (AV.nsl true = AV.nsl true) (eqD l l (eqI (lenI l) (lenI l) (eqI 0 0 (eqD (@List.nil (den NodeT.list)) (@List.nil (den NodeT.list)) (((0 : Int) = 0 ∧ lenI l
    = lenI l ∧ allSmall l ∧ @List.nil (den NodeT.list) = @List.nil (den NodeT.list)) ∧ ((∀ (y : X_flatL1), (y.2.1 = l ∧ y.2.2.1 = lenI l) ∧ y.1 = partsAll y.2.1 → eqI
    (lenI y.1) (lenI y.1) (eqI 0 0 (eqD y.1 y.1 (eqD (@List.nil (den NodeT.list)) (@List.nil (den NodeT.list)) (((0 : Int) = 0 ∧ lenI y.1 = lenI y.1 ∧ lenI y.1 ≤ 1000000
    ∧ @List.nil (den NodeT.list) = @List.nil (den NodeT.list)) ∧ ((∀ (y_1 : X_flatL2), (y_1.2.1 = y.1 ∧ y_1.2.2.1 = lenI y.1) ∧ y_1.1 = dedF y_1.2.1 → AOut.ret (AV.view
    (@List.nil Nat) NodeT.list y_1.1) = AOut.ret (AV.view (@List.nil Nat) NodeT.list (flatF l))) ∧ True) ∧ ∀ (y_1 : X_flatL2), (y_1.2.1 = y.1 ∧ y_1.2.2.1 = lenI y.1)
    ∧ False → AOut.ret AV.bad = AOut.ret (AV.view (@List.nil Nat) NodeT.list (flatF l))))))) ∧ True) ∧ ∀ (y : X_flatL1), (y.2.1 = l ∧ y.2.2.1 = lenI l) ∧ False → AOut.ret
    AV.bad = AOut.ret (AV.view (@List.nil Nat) NodeT.list (flatF l)))))))) := by kernel_rfl
theorem flat_ok : SpecOK Try.prog 87 (fspecS (pureN [.sl (.list NodeT)] flatS)) := pureN_ok (mkCall fsOK_has specsOK_copiedS fns_flatOK) (.sl (.list NodeT)) (fun vs w => Try.call87 vs w) fun args ps v h hp hw => by
  unfold flatS at h
  split at h
  · cases h
    rename_i l
    rw [flat_eq]
    refine ⟨?_⟩
    simp only [allP_cons, allP_nil, and_true] at hp
    simp only [wfAL, wfA, wfS, wfM, wfB, and_true, true_and, wfT_int, wfT_str, wfT_bool, wfT_prod] at hw
    have hp' : allSmall l := hp
    simp only [simpsL, implies_true, forall_const, if_true, if_false, reduceCtorEq]
    refine ⟨hp', ?_⟩
    rintro y ⟨⟨e1, e2⟩, e3⟩
    rw [e1] at e3
    refine ⟨by rw [e3]; exact hp'.2.2, ?_⟩
    rintro z ⟨⟨f1, f2⟩, f3⟩
    rw [f3, f1, e3]; rfl
  · cases h
noncomputable def FF_flat : FSpec := pureN [.sl (.list NodeT)] flatS
theorem FFok_flat : SpecOK Try.prog 87 (fspecS FF_flat) := flat_ok
noncomputable def fs_flat : FS := (87, FF_flat) :: fs_has
theorem fsOK_flat : FSOK Try.prog fs_flat := fsOK_cons FFok_flat fsOK_has
def saysYes (f : List (List (den NodeT))) : Bool := f.any fun n => isOpF n 0 || hasF f (notF n)
def orFl (f : List (List (den NodeT))) : List (den NodeT) := if saysYes f = true then [nd 0] else match f with | [] => [nd 1] | [n] => n | n :: m :: r => makeF 5 0 0 [] 0 (n :: m :: r)
def corF (l : List (List (den NodeT))) : List (den NodeT) := orFl (flatF l)
def allOK (l : List (List (den NodeT))) : Prop := allSmall l ∧ (∀ n ∈ flatF l, treeOK n) ∧ allFit (flatF l)
abbrev X_orL := List (den (.list NodeT)) × List (den (.list NodeT)) × Int × Int
def sh_orL : X_orL → St := fun x => match x with | (l, m, len, i) => ⟨setL (rep .bad 39) [(0, .view [] (.list NodeT) l), (7, .view [] (.list NodeT) m), (8, .int .i64 len), (9, .int .i64 i)], [], [0], [0]⟩
def shr_orL : X_orL → St := fun x => match x with | (l, m, len, i) => ⟨setL (rep .bad 39) [(0, .view [] (.list NodeT) l), (7, .view [] (.list NodeT) m), (8, .int .i64 len), (9, .int .i64 i), (2, .own 0)], [.row 24 NodeT [(0, 0, 0, 0, [], 0)] []], [0], [0]⟩
def sx_orL : AExit → X_orL → St := fun e => match e with | .ret => shr_orL | _ => sh_orL
def nx_orL (σ : St) : X_orL := (gV (.list NodeT) σ 0, gV (.list NodeT) σ 7, gI σ 8, gI σ 9)
def Pre_orL : X_orL → Prop := fun x => match x with | (l, m, len, i) => i = 0 ∧ len = lenI l ∧ m = l ∧ (∀ n ∈ l, treeOK n)
def E0_orL : X_orL → X_orL → Prop := fun x y => match x, y with | (l0, m0, len0, i0), (l, m, len, i) => (l = l0 ∧ m = m0 ∧ len = len0) ∧ (saysYes l = false)
def R_orL : X_orL → X_orL → Prop := fun x y => match x, y with | (l0, m0, len0, i0), (l, m, len, i) => (l = l0 ∧ m = m0 ∧ len = len0) ∧ (saysYes l = true)
def D_orL : X_orL → LEnds X_orL := fun x => ⟨[(0, E0_orL x)], R_orL x⟩
noncomputable def S_orL : Summ := summN sh_orL sx_orL nx_orL Pre_orL D_orL
def Inv_orL : X_orL → X_orL → Prop := fun x y => match x, y with | (l0, m0, len0, i0), (l, m, len, i) => (l = l0 ∧ m = m0 ∧ len = len0) ∧ ((0 ≤ i ∧ i ≤ len) ∧ ((l.drop i.toNat).any fun n => isOpF n 0 || hasF l (notF n)) = saysYes l)
def M_orL : X_orL → X_orL → Nat := fun x y => match x, y with | (l0, m0, len0, i0), (l, m, len, i) => (len - i).toNat
theorem body_orL (Inv : X_orL → Prop) (meas : X_orL → Nat) (nn : Nat) (EE0 RR : X_orL → Prop) (l : List (den (.list NodeT))) (m : List (den (.list NodeT))) (len : Int) (i : Int) : awp tab fs_flat (acall tab fs_flat specs_copiedS fns 100 20) [] 100 (loopAt Try.f67 3) (bodyN sh_orL sx_orL nx_orL Inv meas nn ⟨[(0, EE0)], RR⟩) (sh_orL (l, m, len, i)) =
  (ifB (ltB i len) (need (inI i (lenI m)) (need (impB (notB (isOpF (nth NodeT.list m i) 0)) (treeOK (nth NodeT.list m i))) (ifB (selB (isOpF (nth NodeT.list m i) 0)
    true (hasF l (notF (nth NodeT.list m i)))) (eqD l l (eqD m m (eqI len len (eqI i i (eqD ((0, 0, 0, 0, @List.nil (den TermT), 0) :: @List.nil (den NodeT)) ((0, 0,
    0, 0, @List.nil (den TermT), 0) :: @List.nil (den NodeT)) (RR (l, m, len, i))))))) (eqD l l (eqD m m (eqI len len (eqI (addW IntKind.i64 i 1) (addW IntKind.i64 i
    1) (Inv (l, m, len, addW IntKind.i64 i 1) ∧ meas (l, m, len, addW IntKind.i64 i 1) < nn)))))))) (eqD l l (eqD m m (eqI len len (eqI i i (EE0 (l, m, len, i))))))) := by kernel_rfl
theorem body_orL_ok : ∀ x y, Pre_orL x → Inv_orL x y → wfS (sh_orL y) → Hd (awp tab fs_flat (acall tab fs_flat specs_copiedS fns 100 20) [] 100 (loopAt Try.f67 3) (bodyN sh_orL sx_orL nx_orL (Inv_orL x) (M_orL x) (M_orL x y) (D_orL x)) (sh_orL y)) := by
  rintro ⟨l0, m0, len0, i0⟩ ⟨l, m, len, i⟩ hp hI hw
  obtain ⟨⟨rfl, rfl, rfl⟩, hI⟩ := hI
  have hw_l := wfL_view hw 0 rfl
  have hw_m := wfL_view hw 7 rfl
  have hw_len := wfL_int hw 8 rfl
  have hw_i := wfL_int hw 9 rfl
  have hp : i0 = 0 ∧ len = lenI l ∧ m = l ∧ (∀ n ∈ l, treeOK n) := hp
  unfold D_orL
  rw [body_orL]
  refine ⟨?_⟩
  have hInv : ∀ (i : Int), ((0 ≤ i ∧ i ≤ len) ∧ ((l.drop i.toNat).any fun n => isOpF n 0 || hasF l (notF n)) = saysYes l) → Inv_orL (l, m, len, i0) (l, m, len, i) := fun _ h => ⟨⟨rfl, rfl, rfl⟩, h⟩
  generalize hIe : Inv_orL (l, m, len, i0) = Inv at hInv ⊢
  have hMe : ∀ (i : Int), M_orL (l, m, len, i0) (l, m, len, i) = (len - i).toNat := fun _ => rfl
  generalize M_orL (l, m, len, i0) = Me at hMe ⊢
  have hE0 : ∀ (i : Int), (saysYes l = false) → E0_orL (l, m, len, i0) (l, m, len, i) := fun _ h => ⟨⟨rfl, rfl, rfl⟩, h⟩
  generalize E0_orL (l, m, len, i0) = EE0 at hE0 ⊢
  have hR : ∀ (i : Int), (saysYes l = true) → R_orL (l, m, len, i0) (l, m, len, i) := fun _ h => ⟨⟨rfl, rfl, rfl⟩, h⟩
  generalize R_orL (l, m, len, i0) = RR at hR ⊢
  obtain ⟨hi, hI⟩ := hI
  obtain ⟨p1, rfl, rfl, p4⟩ := hp
  have hlen := wfT_len hw_m
  by_cases hlt : i < lenI m
  · have ei : addW .i64 i 1 = i + 1 := addW64 (by omega) (by omega)
    have hin : inI i (lenI m) := ⟨hi.1, hlt⟩
    have hok := p4 _ (nth_mem (t := .list NodeT) hi.1 hlt)
    rw [drop_nth (t := .list NodeT) hi.1 hlt] at hI
    obtain ⟨x, hx⟩ : ∃ x : List (den NodeT), nth (.list NodeT) m i = x := ⟨_, rfl⟩
    simp only [hx] at hI hok ⊢
    simp only [List.any_cons] at hI
    cases hc : (isOpF x 0 || hasF m (notF x)) with
    | true =>
      rw [hc] at hI
      have hb : selB (isOpF x 0) true (hasF m (notF x)) = true := by cases h : isOpF x 0 <;> simp_all [selB]
      simp only [hb]
      simp only [ltB_t.2 hlt, hin, hok, ei, simpsL, implies_true, forall_const, if_true, if_false, reduceCtorEq]
      exact hR _ hI.symm
    | false =>
      rw [hc, Bool.false_or] at hI
      have hb : selB (isOpF x 0) true (hasF m (notF x)) = false := by cases h : isOpF x 0 <;> simp_all [selB]
      simp only [hb]
      simp only [ltB_t.2 hlt, hin, hok, ei, simpsL, implies_true, forall_const, if_true, if_false, reduceCtorEq]
      exact ⟨hInv _ ⟨⟨by omega, by omega⟩, hI⟩, by simp only [hMe]; omega⟩
  · rw [drop_all (by omega)] at hI
    simp only [List.any_nil] at hI
    simp only [ltB_f.2 (Int.not_lt.1 hlt), simpsL, implies_true, forall_const, if_true, if_false, reduceCtorEq]
    exact hE0 _ hI.symm
theorem summ_orL : SummOK Try.prog (loopAt Try.f67 3) S_orL :=
  summN_ok (L := []) (fuel := 100) tabOK fsOK_flat (mkCall fsOK_flat specsOK_copiedS fnsOK) (fun C => mkDraw fsOK_flat (mkCall fsOK_flat specsOK_copiedS fnsOK) C) loopsOK_nil Inv_orL M_orL
    (fun x hp hw => by
      obtain ⟨l, m, len, i⟩ := x
      have hp : i = 0 ∧ len = lenI l ∧ m = l ∧ (∀ n ∈ l, treeOK n) := hp
      have hw_l := wfL_view hw 0 rfl
      have hw_m := wfL_view hw 7 rfl
      have hw_len := wfL_int hw 8 rfl
      have hw_i := wfL_int hw 9 rfl
      obtain ⟨rfl, rfl, rfl, h⟩ := hp
      exact ⟨⟨rfl, rfl, rfl⟩, ⟨by omega, lenI_nn _⟩, rfl⟩)
    (body_orL_ok)
noncomputable def fns_cor : Fns := (67, Try.f67, [(3, S_orL)]) :: fns
theorem fn_cor : FnOK Try.prog 67 Try.f67 [(3, S_orL)] := fnOK_loops Try.func67 (fun vs w => Try.call67 vs w) (by kernel_rfl) fun k S h => by
  simp only [List.mem_cons, Prod.mk.injEq, List.not_mem_nil, or_false] at h
  obtain ⟨rfl, rfl⟩ := h
  exact summ_orL
theorem fns_corOK : FnsOK Try.prog fns_cor := fnsOK_cons fn_cor fnsOK
noncomputable def corS : List AV → OV := fun args => match args with | [.view [] (.list (.prod (.int .i64) (.prod (.int .i64) (.prod (.int .i64) (.prod (.int .i64) (.prod (.list (.prod .str (.int .i64))) (.int .i64))))))) l] => some ([allOK l], .view [] NodeT (corF l)) | _ => none
theorem cor_eq (l : List (List (den NodeT))) : acall tab fs_flat specs_copiedS fns_cor 100 20 67 [.view [] (.list NodeT) l] [] (fun o mm _ _ => resN (.sl NodeT) mm o = .ret (.view [] NodeT (corF l))) =
  (need (allSmall l) (eqD (flatF l) (flatF l) (eqD (flatF l) (flatF l) (eqI (lenI (flatF l)) (lenI (flatF l)) (eqI 0 0 (((0 : Int) = 0 ∧ lenI (flatF l) = lenI (flatF
    l) ∧ flatF l = flatF l ∧ ∀ (n : den NodeT.list), n ∈ flatF l → treeOK n) ∧ ((∀ (y : X_orL), (y.1 = flatF l ∧ y.2.1 = flatF l ∧ y.2.2.1 = lenI (flatF l)) ∧ saysYes
    y.1 = false → ifB (eqB (lenI y.1) 0) (AOut.ret (AV.view (@List.nil Nat) NodeT ((1, 0, 0, 0, @List.nil (den TermT), 0) :: @List.nil (den NodeT))) = AOut.ret (AV.view
    (@List.nil Nat) NodeT (corF l))) (ifB (eqB (lenI y.1) 1) (need (inI 0 (lenI y.1)) (need (fits (nth NodeT.list y.1 0)) (need (termsFit (nth NodeT.list y.1 0)) (AOut.ret
    (AV.view (@List.nil Nat) NodeT (nth NodeT.list y.1 0)) = AOut.ret (AV.view (@List.nil Nat) NodeT (corF l)))))) (need (fits (@List.nil (den TermT))) (need (allFit
    y.1) (AOut.ret (AV.view (@List.nil Nat) NodeT (makeF 5 0 0 (@List.nil (den TermT)) 0 y.1)) = AOut.ret (AV.view (@List.nil Nat) NodeT (corF l))))))) ∧ True) ∧ ∀ (y
    : X_orL), (y.1 = flatF l ∧ y.2.1 = flatF l ∧ y.2.2.1 = lenI (flatF l)) ∧ saysYes y.1 = true → AOut.ret (AV.view (@List.nil Nat) NodeT ((0, 0, 0, 0, @List.nil (den
    TermT), 0) :: @List.nil (den NodeT))) = AOut.ret (AV.view (@List.nil Nat) NodeT (corF l)))))))) := by kernel_rfl
theorem cor_ok : SpecOK Try.prog 67 (fspecS (pureN [.sl (.list NodeT)] corS)) := pureN_ok (mkCall fsOK_flat specsOK_copiedS fns_corOK) (.sl NodeT) (fun vs w => Try.call67 vs w) fun args ps v h hp hw => by
  unfold corS at h
  split at h
  · cases h
    rename_i l
    rw [cor_eq]
    refine ⟨?_⟩
    simp only [allP_cons, allP_nil, and_true] at hp
    simp only [wfAL, wfA, wfS, wfM, wfB, and_true, true_and, wfT_int, wfT_str, wfT_bool, wfT_prod] at hw
    have hp' : allOK l := hp
    obtain ⟨h1, h2, h3⟩ := hp'
    simp only [simpsL, implies_true, forall_const, if_true, if_false, reduceCtorEq]
    unfold corF
    generalize flatF l = f at h2 h3 ⊢
    refine ⟨h1, h2, ?_, ?_⟩
    · rintro y ⟨⟨e1, e2⟩, e3⟩
      rw [e1] at e3 ⊢
      unfold orFl
      rw [e3]
      have fe : fits ([] : List (den TermT)) := by unfold fits lenI; simp
      match f with
      | [] => exact ⟨fun _ => rfl, fun h => absurd rfl h⟩
      | [n] =>
        have hn := h2 n (List.mem_singleton.2 rfl)
        exact ⟨fun h => by simp [lenI] at h, fun _ => ⟨fun _ => ⟨⟨Int.le_refl _, by simp [lenI]⟩, fits_small hn.1, hn.2, rfl⟩, fun h => absurd rfl h⟩⟩
      | n :: m :: r =>
        have hr := lenI_nn r
        refine ⟨fun h => ?_, fun _ => ⟨fun h => ?_, fun _ => ⟨fe, h3, rfl⟩⟩⟩
        · rw [len_cons, len_cons] at h; omega
        · rw [len_cons, len_cons] at h; omega
    · rintro y ⟨⟨e1, e2⟩, e3⟩
      rw [e1] at e3
      unfold orFl
      rw [if_pos e3]; rfl
  · cases h
noncomputable def FF_cor : FSpec := pureN [.sl (.list NodeT)] corS
theorem FFok_cor : SpecOK Try.prog 67 (fspecS FF_cor) := cor_ok
noncomputable def fs_cor : FS := (67, FF_cor) :: fs_flat
theorem fsOK_cor : FSOK Try.prog fs_cor := fsOK_cons FFok_cor fsOK_flat
def nots (l : List (List (den NodeT))) : List (List (den NodeT)) := l.map notF
def andOK (l : List (List (den NodeT))) : Prop := lenI l ≤ 1000000 ∧ (∀ n ∈ l, treeOK n) ∧ allOK (nots l) ∧ treeOK (corF (nots l))
def candF (l : List (List (den NodeT))) : List (den NodeT) := notF (corF (nots l))
abbrev X_andL := List (den (.list NodeT)) × List (den (.list NodeT)) × Int × Int
def sh_andL : X_andL → St := fun x => match x with | (out, l, len, i) => ⟨setL (rep .bad 21) [(6, .view [] (.list NodeT) l), (7, .int .i64 len), (8, .int .i64 i), (3, .own 0)], [.row 28 (.list NodeT) out []], [0, 1], [0, 1]⟩
def sx_andL : AExit → X_andL → St := fun _ => sh_andL
def nx_andL (σ : St) : X_andL := (rV (.list NodeT) σ 0, gV (.list NodeT) σ 6, gI σ 7, gI σ 8)
def Pre_andL : X_andL → Prop := fun x => match x with | (out, l, len, i) => i = 0 ∧ len = lenI l ∧ out = [] ∧ lenI l ≤ 1000000 ∧ (∀ n ∈ l, treeOK n)
def E0_andL : X_andL → X_andL → Prop := fun x y => match x, y with | (out0, l0, len0, i0), (out, l, len, i) => (l = l0 ∧ len = len0) ∧ (out = nots l)
def R_andL : X_andL → X_andL → Prop := fun x y => match x, y with | (out0, l0, len0, i0), (out, l, len, i) => (l = l0 ∧ len = len0) ∧ (False)
def D_andL : X_andL → LEnds X_andL := fun x => ⟨[(0, E0_andL x)], R_andL x⟩
noncomputable def S_andL : Summ := summN sh_andL sx_andL nx_andL Pre_andL D_andL
def Inv_andL : X_andL → X_andL → Prop := fun x y => match x, y with | (out0, l0, len0, i0), (out, l, len, i) => (l = l0 ∧ len = len0) ∧ ((0 ≤ i ∧ i ≤ len) ∧ lenI out ≤ i ∧ out ++ nots (l.drop i.toNat) = nots l)
def M_andL : X_andL → X_andL → Nat := fun x y => match x, y with | (out0, l0, len0, i0), (out, l, len, i) => (len - i).toNat
theorem body_andL (Inv : X_andL → Prop) (meas : X_andL → Nat) (nn : Nat) (EE0 RR : X_andL → Prop) (out : List (den (.list NodeT))) (l : List (den (.list NodeT))) (len : Int) (i : Int) : awp tab fs_cor (acall tab fs_cor specs_copiedS fns 100 20) [] 100 (loopAt Try.f66 3) (bodyN sh_andL sx_andL nx_andL Inv meas nn ⟨[(0, EE0)], RR⟩) (sh_andL (out, l, len, i)) =
  (ifB (ltB i len) (need (inI i (lenI l)) (need (treeOK (nth NodeT.list l i)) (need (fitA (lenI out + 1)) (eqD l l (eqI len len (eqI (addW IntKind.i64 i 1) (addW IntKind.i64
    i 1) (eqD (appL out (notF (nth NodeT.list l i) :: @List.nil (den NodeT.list))) (appL out (notF (nth NodeT.list l i) :: @List.nil (den NodeT.list))) (Inv (appL out
    (notF (nth NodeT.list l i) :: @List.nil (den NodeT.list)), l, len, addW IntKind.i64 i 1) ∧ meas (appL out (notF (nth NodeT.list l i) :: @List.nil (den NodeT.list)),
    l, len, addW IntKind.i64 i 1) < nn)))))))) (eqD l l (eqI len len (eqI i i (eqD out out (EE0 (out, l, len, i))))))) := by kernel_rfl
theorem body_andL_ok : ∀ x y, Pre_andL x → Inv_andL x y → wfS (sh_andL y) → Hd (awp tab fs_cor (acall tab fs_cor specs_copiedS fns 100 20) [] 100 (loopAt Try.f66 3) (bodyN sh_andL sx_andL nx_andL (Inv_andL x) (M_andL x) (M_andL x y) (D_andL x)) (sh_andL y)) := by
  rintro ⟨out0, l0, len0, i0⟩ ⟨out, l, len, i⟩ hp hI hw
  obtain ⟨⟨rfl, rfl⟩, hI⟩ := hI
  have hw_out := wfR_row hw 0 rfl
  have hw_l := wfL_view hw 6 rfl
  have hw_len := wfL_int hw 7 rfl
  have hw_i := wfL_int hw 8 rfl
  have hp : i0 = 0 ∧ len = lenI l ∧ out0 = [] ∧ lenI l ≤ 1000000 ∧ (∀ n ∈ l, treeOK n) := hp
  unfold D_andL
  rw [body_andL]
  refine ⟨?_⟩
  have hInv : ∀ (out : List (den (.list NodeT))) (i : Int), ((0 ≤ i ∧ i ≤ len) ∧ lenI out ≤ i ∧ out ++ nots (l.drop i.toNat) = nots l) → Inv_andL (out0, l, len, i0) (out, l, len, i) := fun _ _ h => ⟨⟨rfl, rfl⟩, h⟩
  generalize hIe : Inv_andL (out0, l, len, i0) = Inv at hInv ⊢
  have hMe : ∀ (out : List (den (.list NodeT))) (i : Int), M_andL (out0, l, len, i0) (out, l, len, i) = (len - i).toNat := fun _ _ => rfl
  generalize M_andL (out0, l, len, i0) = Me at hMe ⊢
  have hE0 : ∀ (out : List (den (.list NodeT))) (i : Int), (out = nots l) → E0_andL (out0, l, len, i0) (out, l, len, i) := fun _ _ h => ⟨⟨rfl, rfl⟩, h⟩
  generalize E0_andL (out0, l, len, i0) = EE0 at hE0 ⊢
  have hR : ∀ (out : List (den (.list NodeT))) (i : Int), (False) → R_andL (out0, l, len, i0) (out, l, len, i) := fun _ _ h => ⟨⟨rfl, rfl⟩, h⟩
  generalize R_andL (out0, l, len, i0) = RR at hR ⊢
  obtain ⟨hi, ho, hI⟩ := hI
  obtain ⟨p1, rfl, p3, p4, p5⟩ := hp
  have hlen := wfT_len hw_l
  by_cases hlt : i < lenI l
  · have ei : addW .i64 i 1 = i + 1 := addW64 (by omega) (by omega)
    have hin : inI i (lenI l) := ⟨hi.1, hlt⟩
    have hok := p5 _ (nth_mem (t := .list NodeT) hi.1 hlt)
    rw [drop_nth (t := .list NodeT) hi.1 hlt] at hI
    obtain ⟨x, hx⟩ : ∃ x : List (den NodeT), nth (.list NodeT) l i = x := ⟨_, rfl⟩
    simp only [hx] at hI hok ⊢
    simp only [nots, List.map_cons] at hI
    have hfit : fitA (lenI out + 1) := by unfold fitA; omega
    simp only [ltB_t.2 hlt, hin, hok, hfit, ei, simpsL, implies_true, forall_const, if_true, if_false, reduceCtorEq]
    refine ⟨hInv _ _ ⟨⟨by omega, by omega⟩, by rw [len_snoc]; omega, ?_⟩, by simp only [hMe]; omega⟩
    rw [List.append_assoc]; exact hI
  · rw [drop_all (by omega)] at hI
    simp only [nots, List.map_nil, List.append_nil] at hI
    simp only [ltB_f.2 (Int.not_lt.1 hlt), simpsL, implies_true, forall_const, if_true, if_false, reduceCtorEq]
    exact hE0 _ _ hI
theorem summ_andL : SummOK Try.prog (loopAt Try.f66 3) S_andL :=
  summN_ok (L := []) (fuel := 100) tabOK fsOK_cor (mkCall fsOK_cor specsOK_copiedS fnsOK) (fun C => mkDraw fsOK_cor (mkCall fsOK_cor specsOK_copiedS fnsOK) C) loopsOK_nil Inv_andL M_andL
    (fun x hp hw => by
      obtain ⟨out, l, len, i⟩ := x
      have hp : i = 0 ∧ len = lenI l ∧ out = [] ∧ lenI l ≤ 1000000 ∧ (∀ n ∈ l, treeOK n) := hp
      have hw_out := wfR_row hw 0 rfl
      have hw_l := wfL_view hw 6 rfl
      have hw_len := wfL_int hw 7 rfl
      have hw_i := wfL_int hw 8 rfl
      obtain ⟨rfl, rfl, rfl, h⟩ := hp
      exact ⟨⟨rfl, rfl⟩, ⟨by omega, lenI_nn _⟩, by decide, rfl⟩)
    (body_andL_ok)
noncomputable def fns_cand : Fns := (66, Try.f66, [(3, S_andL)]) :: fns
theorem fn_cand : FnOK Try.prog 66 Try.f66 [(3, S_andL)] := fnOK_loops Try.func66 (fun vs w => Try.call66 vs w) (by kernel_rfl) fun k S h => by
  simp only [List.mem_cons, Prod.mk.injEq, List.not_mem_nil, or_false] at h
  obtain ⟨rfl, rfl⟩ := h
  exact summ_andL
theorem fns_candOK : FnsOK Try.prog fns_cand := fnsOK_cons fn_cand fnsOK
noncomputable def candS : List AV → OV := fun args => match args with | [.view [] (.list (.prod (.int .i64) (.prod (.int .i64) (.prod (.int .i64) (.prod (.int .i64) (.prod (.list (.prod .str (.int .i64))) (.int .i64))))))) l] => some ([andOK l], .view [] NodeT (candF l)) | _ => none
theorem cand_eq (l : List (List (den NodeT))) : acall tab fs_cor specs_copiedS fns_cand 100 20 66 [.view [] (.list NodeT) l] [] (fun o mm _ _ => resN (.sl NodeT) mm o = .ret (.view [] NodeT (candF l))) =
  (eqD l l (eqI (lenI l) (lenI l) (eqI 0 0 (eqD (@List.nil (den NodeT.list)) (@List.nil (den NodeT.list)) (((0 : Int) = 0 ∧ lenI l = lenI l ∧ @List.nil (den NodeT.list)
    = @List.nil (den NodeT.list) ∧ lenI l ≤ 1000000 ∧ ∀ (n : den NodeT.list), n ∈ l → treeOK n) ∧ ((∀ (y : X_andL), (y.2.1 = l ∧ y.2.2.1 = lenI l) ∧ y.1 = nots y.2.1
    → need (allOK y.1) (need (treeOK (corF y.1)) (AOut.ret (AV.view (@List.nil Nat) NodeT (notF (corF y.1))) = AOut.ret (AV.view (@List.nil Nat) NodeT (candF l)))))
    ∧ True) ∧ ∀ (y : X_andL), (y.2.1 = l ∧ y.2.2.1 = lenI l) ∧ False → AOut.ret AV.bad = AOut.ret (AV.view (@List.nil Nat) NodeT (candF l))))))) := by kernel_rfl
theorem cand_ok : SpecOK Try.prog 66 (fspecS (pureN [.sl (.list NodeT)] candS)) := pureN_ok (mkCall fsOK_cor specsOK_copiedS fns_candOK) (.sl NodeT) (fun vs w => Try.call66 vs w) fun args ps v h hp hw => by
  unfold candS at h
  split at h
  · cases h
    rename_i l
    rw [cand_eq]
    refine ⟨?_⟩
    simp only [allP_cons, allP_nil, and_true] at hp
    simp only [wfAL, wfA, wfS, wfM, wfB, and_true, true_and, wfT_int, wfT_str, wfT_bool, wfT_prod] at hw
    obtain ⟨g1, g2, g3, g4⟩ := hp
    have g5 : (lenI l ≤ 1000000 ∧ ∀ n ∈ l, treeOK n) := ⟨g1, g2⟩
    simp only [simpsL, implies_true, forall_const, if_true, if_false, reduceCtorEq]
    refine ⟨g5, ?_⟩
    rintro y ⟨⟨e1, e2⟩, e3⟩
    rw [e1] at e3
    rw [e3]
    exact ⟨g3, g4, rfl⟩
  · cases h
noncomputable def FF_cand : FSpec := pureN [.sl (.list NodeT)] candS
theorem FFok_cand : SpecOK Try.prog 66 (fspecS FF_cand) := cand_ok
noncomputable def fs_cand : FS := (66, FF_cand) :: fs_cor
theorem fsOK_cand : FSOK Try.prog fs_cand := fsOK_cons FFok_cand fsOK_cor
end Go.Proofs.Ytmdjpohmbkodeaa.Sx

