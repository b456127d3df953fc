/- Formulas brought to few kinds of parts: what the functions come to. -/
import Derived.Test.YtmdjpohmbkodeaaSmTreeC
namespace Go.Proofs.Ytmdjpohmbkodeaa.Sx
open Go.RowKit
set_option maxRecDepth 100000
set_option maxHeartbeats 4000000
set_option linter.unusedVariables false
set_option linter.unusedSimpArgs false
theorem len_zero {α : Type} {l : List α} : lenI l = 0 ↔ l = [] := by
  cases l with
  | nil => simp [lenI]
  | cons a l => simp [lenI]; omega
def nd (op : Int) : den NodeT := (op, 0, 0, 0, [], 0)
def opG : List (den NodeT) → Int → Bool
  | [], _ => false
  | x :: _, op => decide (x.1 = op)
def isOpF (n : List (den NodeT)) (op : Int) : Bool := opG n op
def fewF (op nn fr to : Int) (ts : List (den TermT)) (num : Int) : Bool := (decide (op = 0) || decide (op = 1) || decide (op = 2) || decide (op = 3) || decide (op = 5) || decide (op = 7) || (decide (op = 10) && (decide (fr ≤ to) || decide (to = -1)))) && rightF op nn fr to ts num
noncomputable def isOpS : List AV → OV := fun args => match args with | [.view [] (.prod (.int .i64) (.prod (.int .i64) (.prod (.int .i64) (.prod (.int .i64) (.prod (.list (.prod .str (.int .i64))) (.int .i64)))))) n, .int .i64 op] => some ([], .bool (isOpF n op)) | _ => none
theorem isOp_eq (n : List (den NodeT)) (op : Int) : acall tab fs_make specs_copiedS fns 100 20 86 [.view [] NodeT n, .int .i64 op] [] (fun o mm _ _ => resN (.any) mm o = .ret (.bool (isOpF n op))) =
  (need (impB (ltB 0 (lenI n)) (inI 0 (lenI n))) (AOut.ret (AV.bool (selB (ltB 0 (lenI n)) (eqB (nth NodeT n 0).fst op) false)) = AOut.ret (AV.bool (isOpF n op)))) := by kernel_rfl
theorem isOp_ok : SpecOK Try.prog 86 (fspecS (pureN [.sl NodeT] isOpS)) := pureN_ok (mkCall fsOK_make specsOK_copiedS fnsOK) (.any) (fun vs w => Try.call86 vs w) fun args ps v h hp hw => by
  unfold isOpS at h
  split at h
  · cases h
    rename_i n op
    rw [isOp_eq]
    refine ⟨?_⟩
    simp only [allP_cons, allP_nil, and_true] at hp
    simp only [wfAL, wfA, wfS, wfM, wfB, and_true, true_and, wfT_int, wfT_str, wfT_bool, wfT_prod] at hw
    simp only [simpsL, implies_true, forall_const, if_true, if_false, reduceCtorEq]
    cases n with
    | nil => simp [lenI, isOpF, opG]
    | cons x l =>
      have h := lenI_nn l
      obtain ⟨x1, x2, rfl⟩ : ∃ (q1 : Int) (q2 : Int × Int × Int × List (den TermT) × Int), x = (q1, q2) := ⟨_, _, rfl⟩
      have hx : nth NodeT ((x1, x2) :: l) 0 = (x1, x2) := rfl
      rw [hx]
      simp only [len_cons, isOpF, opG]
      have h2 : 0 < lenI l + 1 := by omega
      simp [h2]
  · cases h
noncomputable def FF_isOp : FSpec := pureN [.sl NodeT] isOpS
theorem FFok_isOp : SpecOK Try.prog 86 (fspecS FF_isOp) := isOp_ok
noncomputable def fs_isOp : FS := (86, FF_isOp) :: fs_make
theorem fsOK_isOp : FSOK Try.prog fs_isOp := fsOK_cons FFok_isOp fsOK_make
noncomputable def fewS : List AV → OV := fun args => match args with | [.agg [.int .i64 op, .int .i64 nn, .int .i64 fr, .int .i64 to, .view [] (.prod .str (.int .i64)) ts, .int .i64 num]] => some ([], .bool (fewF op nn fr to ts num)) | _ => none
theorem few_eq (op nn fr to : Int) (ts : List (den TermT)) (num : Int) : acall tab fs_isOp specs_copiedS fns 100 20 78 [.agg [.int .i64 op, .int .i64 nn, .int .i64 fr, .int .i64 to, .view [] TermT ts, .int .i64 num]] [] (fun o mm _ _ => resN (.any) mm o = .ret (.bool (fewF op nn fr to ts num))) =
  (ifB (selB (eqB op 0) (eqB op 0) (selB (eqB op 1) (eqB op 1) (selB (eqB op 2) (eqB op 2) (selB (eqB op 3) (eqB op 3) (selB (eqB op 5) (eqB op 5) (eqB op 7)))))) (AOut.ret
    (AV.bool (rightF op nn fr to ts num)) = AOut.ret (AV.bool (fewF op nn fr to ts num))) (ifB (eqB op 10) (AOut.ret (AV.bool (selB (rightF op nn fr to ts num) (selB
    (leB fr to) true (eqB to (-1))) false)) = AOut.ret (AV.bool (fewF op nn fr to ts num))) (AOut.ret (AV.bool false) = AOut.ret (AV.bool (fewF op nn fr to ts num))))) := by kernel_rfl
theorem few_ok : SpecOK Try.prog 78 (fspecS (pureN [] fewS)) := pureN_ok (mkCall fsOK_isOp specsOK_copiedS fnsOK) (.any) (fun vs w => Try.call78 vs w) fun args ps v h hp hw => by
  unfold fewS at h
  split at h
  · cases h
    rename_i op nn fr to ts num
    rw [few_eq]
    refine ⟨?_⟩
    simp only [allP_cons, allP_nil, and_true] at hp
    simp only [wfAL, wfA, wfS, wfM, wfB, and_true, true_and, wfT_int, wfT_str, wfT_bool, wfT_prod] at hw
    simp only [simpsL, implies_true, forall_const, if_true, if_false, reduceCtorEq]
    simp only [fewF, selB]
    by_cases h0 : op = 0 <;> by_cases h1 : op = 1 <;> by_cases h2 : op = 2 <;> by_cases h3 : op = 3 <;> by_cases h5 : op = 5 <;> by_cases h7 : op = 7 <;> by_cases h10 : op = 10 <;> simp_all [Bool.and_comm]
  · cases h
noncomputable def FF_few : FSpec := pureN [] fewS
theorem FFok_few : SpecOK Try.prog 78 (fspecS FF_few) := few_ok
noncomputable def fs_few : FS := (78, FF_few) :: fs_isOp
theorem fsOK_few : FSOK Try.prog fs_few := fsOK_cons FFok_few fsOK_isOp
noncomputable def isCore1S : List AV → OV := fun args => match args with | [.agg [.int .i64 op, .int .i64 nn, .int .i64 fr, .int .i64 to, .view [] (.prod .str (.int .i64)) ts, .int .i64 num]] => some ([], .bool (notB (fewF op nn fr to ts num))) | _ => none
theorem isCore1_eq (op nn fr to : Int) (ts : List (den TermT)) (num : Int) : acall tab fs_few specs_copiedS fns 100 20 77 [.agg [.int .i64 op, .int .i64 nn, .int .i64 fr, .int .i64 to, .view [] TermT ts, .int .i64 num]] [] (fun o mm _ _ => resN (.any) mm o = .ret (.bool (notB (fewF op nn fr to ts num)))) =
  (AOut.ret (AV.bool (notB (fewF op nn fr to ts num))) = AOut.ret (AV.bool (notB (fewF op nn fr to ts num)))) := by kernel_rfl
theorem isCore1_ok : SpecOK Try.prog 77 (fspecS (pureN [] isCore1S)) := pureN_ok (mkCall fsOK_few specsOK_copiedS fnsOK) (.any) (fun vs w => Try.call77 vs w) fun args ps v h hp hw => by
  unfold isCore1S at h
  split at h
  · cases h
    rename_i op nn fr to ts num
    rw [isCore1_eq]
    refine ⟨?_⟩
    simp only [allP_cons, allP_nil, and_true] at hp
    simp only [wfAL, wfA, wfS, wfM, wfB, and_true, true_and, wfT_int, wfT_str, wfT_bool, wfT_prod] at hw
    first | (simp only [simpsL, implies_true, forall_const, if_true, if_false, reduceCtorEq]; done) | (simp only [simpsL, implies_true, forall_const, if_true, if_false, reduceCtorEq]; rfl)
  · cases h
noncomputable def FF_isCore1 : FSpec := pureN [] isCore1S
theorem FFok_isCore1 : SpecOK Try.prog 77 (fspecS FF_isCore1) := isCore1_ok
noncomputable def fs_isCore1 : FS := (77, FF_isCore1) :: fs_few
theorem fsOK_isCore1 : FSOK Try.prog fs_isCore1 := fsOK_cons FFok_isCore1 fsOK_few
def idxFew_p  (x : den NodeT) : Bool := notB (fewF x.1 x.2.1 x.2.2.1 x.2.2.2.1 x.2.2.2.2.1 x.2.2.2.2.2)
def idxFew_f  (n : List (den NodeT)) : Int := idxG (idxFew_p ) n 0
theorem idxFew_any  (n : List (den NodeT)) : leB 0 (idxFew_f  n) = n.any (idxFew_p ) := idxG_any (by omega)
abbrev X_idxFew := List (den NodeT) × Int × Int × Int
def sh_idxFew : X_idxFew → St := fun x => match x with | (n, len, i, r) => ⟨setL (rep .bad 19) [(0, .view [] NodeT n), (7, .int .i64 len), (8, .int .i64 i), (1, .fn (.func 77) [] [])], [], [], []⟩
def shr_idxFew : X_idxFew → St := fun x => match x with | (n, len, i, r) => ⟨setL (rep .bad 19) [(0, .view [] NodeT n), (7, .int .i64 len), (8, .int .i64 i), (4, .int .i64 r), (1, .fn (.func 77) [] [])], [], [], []⟩
def sx_idxFew : AExit → X_idxFew → St := fun e => match e with | .ret => shr_idxFew | _ => sh_idxFew
def nx_idxFew (σ : St) : X_idxFew := (gV NodeT σ 0, gI σ 7, gI σ 8, gI σ 4)
def Pre_idxFew : X_idxFew → Prop := fun x => match x with | (n, len, i, r) => i = 0 ∧ len = lenI n
def E0_idxFew : X_idxFew → X_idxFew → Prop := fun x y => match x, y with | (n0, len0, i0, r0), (n, len, i, r) => (n = n0 ∧ len = len0) ∧ (idxFew_f  n = -1)
def R_idxFew : X_idxFew → X_idxFew → Prop := fun x y => match x, y with | (n0, len0, i0, r0), (n, len, i, r) => (n = n0 ∧ len = len0) ∧ (r = idxFew_f  n)
def D_idxFew : X_idxFew → LEnds X_idxFew := fun x => ⟨[(0, E0_idxFew x)], R_idxFew x⟩
noncomputable def S_idxFew : Summ := summN sh_idxFew sx_idxFew nx_idxFew Pre_idxFew D_idxFew
def Inv_idxFew : X_idxFew → X_idxFew → Prop := fun x y => match x, y with | (n0, len0, i0, r0), (n, len, i, r) => (n = n0 ∧ len = len0) ∧ ((0 ≤ i ∧ i ≤ len) ∧ idxG (idxFew_p ) (n.drop i.toNat) i = idxFew_f  n)
def M_idxFew : X_idxFew → X_idxFew → Nat := fun x y => match x, y with | (n0, len0, i0, r0), (n, len, i, r) => (len - i).toNat
theorem body_idxFew (Inv : X_idxFew → Prop) (meas : X_idxFew → Nat) (nn : Nat) (EE0 RR : X_idxFew → Prop) (n : List (den NodeT)) (len : Int) (i : Int) (r : Int) : awp tab fs_isCore1 (acall tab fs_isCore1 specs_copiedS fns 100 20) [] 100 (loopAt Try.f54 2) (bodyN sh_idxFew sx_idxFew nx_idxFew Inv meas nn ⟨[(0, EE0)], RR⟩) (sh_idxFew (n, len, i, r)) =
  (ifB (ltB i len) (need (inI i (lenI n)) (ifB (notB (fewF (nth NodeT n i).fst (nth NodeT n i).snd.fst (nth NodeT n i).snd.snd.fst (nth NodeT n i).snd.snd.snd.fst (nth
    NodeT n i).snd.snd.snd.snd.fst (nth NodeT n i).snd.snd.snd.snd.snd)) (eqD n n (need (AV.fn (Fn.func 77) (@List.nil AV) (@List.nil AV) = AV.fn (Fn.func 77) (@List.nil
    AV) (@List.nil AV)) (eqI i i (eqI len len (eqI i i (RR (n, len, i, i))))))) (eqD n n (need (AV.fn (Fn.func 77) (@List.nil AV) (@List.nil AV) = AV.fn (Fn.func 77)
    (@List.nil AV) (@List.nil AV)) (eqI len len (eqI (addW IntKind.i64 i 1) (addW IntKind.i64 i 1) (Inv (n, len, addW IntKind.i64 i 1, 0) ∧ meas (n, len, addW IntKind.i64
    i 1, 0) < nn))))))) (eqD n n (need (AV.fn (Fn.func 77) (@List.nil AV) (@List.nil AV) = AV.fn (Fn.func 77) (@List.nil AV) (@List.nil AV)) (eqI len len (eqI i i (EE0
    (n, len, i, 0))))))) := by kernel_rfl
theorem body_idxFew_ok : ∀ x y, Pre_idxFew x → Inv_idxFew x y → wfS (sh_idxFew y) → Hd (awp tab fs_isCore1 (acall tab fs_isCore1 specs_copiedS fns 100 20) [] 100 (loopAt Try.f54 2) (bodyN sh_idxFew sx_idxFew nx_idxFew (Inv_idxFew x) (M_idxFew x) (M_idxFew x y) (D_idxFew x)) (sh_idxFew y)) := by
  rintro ⟨n0, len0, i0, r0⟩ ⟨n, len, i, r⟩ hp hI hw
  obtain ⟨⟨rfl, rfl⟩, hI⟩ := hI
  have hw_n := wfL_view hw 0 rfl
  have hw_len := wfL_int hw 7 rfl
  have hw_i := wfL_int hw 8 rfl
  have hp : i0 = 0 ∧ len = lenI n := hp
  unfold D_idxFew
  rw [body_idxFew]
  refine ⟨?_⟩
  have hInv : ∀ (i : Int) (r : Int), ((0 ≤ i ∧ i ≤ len) ∧ idxG (idxFew_p ) (n.drop i.toNat) i = idxFew_f  n) → Inv_idxFew (n, len, i0, r0) (n, len, i, r) := fun _ _ h => ⟨⟨rfl, rfl⟩, h⟩
  generalize hIe : Inv_idxFew (n, len, i0, r0) = Inv at hInv ⊢
  have hMe : ∀ (i : Int) (r : Int), M_idxFew (n, len, i0, r0) (n, len, i, r) = (len - i).toNat := fun _ _ => rfl
  generalize M_idxFew (n, len, i0, r0) = Me at hMe ⊢
  have hE0 : ∀ (i : Int) (r : Int), (idxFew_f  n = -1) → E0_idxFew (n, len, i0, r0) (n, len, i, r) := fun _ _ h => ⟨⟨rfl, rfl⟩, h⟩
  generalize E0_idxFew (n, len, i0, r0) = EE0 at hE0 ⊢
  have hR : ∀ (i : Int) (r : Int), (r = idxFew_f  n) → R_idxFew (n, len, i0, r0) (n, len, i, r) := fun _ _ h => ⟨⟨rfl, rfl⟩, h⟩
  generalize R_idxFew (n, len, i0, r0) = RR at hR ⊢
  obtain ⟨hi, hI⟩ := hI
  obtain ⟨p1, rfl⟩ := hp
  by_cases hlt : i < lenI n
  · rw [drop_nth (t := NodeT) hi.1 hlt] at hI
    simp only [idxG] at hI
    have hlen := wfT_len hw_n
    have hwx := wfT_nth hw_n hi.1 hlt
    have ei : addW .i64 i 1 = i + 1 := addW64 (by omega) (by omega)
    have hin : inI i (lenI n) := ⟨hi.1, hlt⟩
    cases hb : idxFew_p  (nth NodeT n i)
    · rw [hb] at hI
      have hb2 := hb
      unfold idxFew_p at hb2
      simp only [ltB_t.2 hlt, hb2, hin, ei, hMe, simpsL, implies_true, forall_const, if_true, if_false, reduceCtorEq] at hI ⊢
      (repeat' (first | with_reducible rfl | assumption | omega | (apply Eq.symm; assumption) | (simp only [hMe]; omega) | (exact lenI_nn _) | trivial | (refine hInv _ ?_) | (refine hInv _ _ ?_) | (refine hInv _ _ _ ?_) | (refine hInv _ _ _ _ ?_) | (refine hE0 _ ?_) | (refine hE0 _ _ ?_) | (refine hE0 _ _ _ ?_) | (refine hE0 _ _ _ _ ?_) | (refine hR _ ?_) | (refine hR _ _ ?_) | (refine hR _ _ _ ?_) | (refine hR _ _ _ _ ?_) | refine ⟨?_, ?_⟩ | intro _))
    · rw [hb] at hI
      have hb2 := hb
      unfold idxFew_p at hb2
      simp only [ltB_t.2 hlt, hb2, hin, ei, hMe, simpsL, implies_true, forall_const, if_true, if_false, reduceCtorEq] at hI ⊢
      (repeat' (first | with_reducible rfl | assumption | omega | (apply Eq.symm; assumption) | (simp only [hMe]; omega) | (exact lenI_nn _) | trivial | (refine hInv _ ?_) | (refine hInv _ _ ?_) | (refine hInv _ _ _ ?_) | (refine hInv _ _ _ _ ?_) | (refine hE0 _ ?_) | (refine hE0 _ _ ?_) | (refine hE0 _ _ _ ?_) | (refine hE0 _ _ _ _ ?_) | (refine hR _ ?_) | (refine hR _ _ ?_) | (refine hR _ _ _ ?_) | (refine hR _ _ _ _ ?_) | refine ⟨?_, ?_⟩ | intro _))
  · rw [drop_all (by omega)] at hI
    simp only [idxG] at hI
    rw [ltB_f.2 (Int.not_lt.1 hlt)]
    simp only [simpsL, implies_true, forall_const, if_true, if_false, reduceCtorEq]
    (repeat' (first | with_reducible rfl | assumption | omega | (apply Eq.symm; assumption) | (simp only [hMe]; omega) | (exact lenI_nn _) | trivial | (refine hInv _ ?_) | (refine hInv _ _ ?_) | (refine hInv _ _ _ ?_) | (refine hInv _ _ _ _ ?_) | (refine hE0 _ ?_) | (refine hE0 _ _ ?_) | (refine hE0 _ _ _ ?_) | (refine hE0 _ _ _ _ ?_) | (refine hR _ ?_) | (refine hR _ _ ?_) | (refine hR _ _ _ ?_) | (refine hR _ _ _ _ ?_) | refine ⟨?_, ?_⟩ | intro _))
theorem summ_idxFew : SummOK Try.prog (loopAt Try.f54 2) S_idxFew :=
  summN_ok (L := []) (fuel := 100) tabOK fsOK_isCore1 (mkCall fsOK_isCore1 specsOK_copiedS fnsOK) (fun C => mkDraw fsOK_isCore1 (mkCall fsOK_isCore1 specsOK_copiedS fnsOK) C) loopsOK_nil Inv_idxFew M_idxFew
    (fun x hp hw => by
      obtain ⟨n, len, i, r⟩ := x
      have hp : i = 0 ∧ len = lenI n := hp
      have hw_n := wfL_view hw 0 rfl
      have hw_len := wfL_int hw 7 rfl
      have hw_i := wfL_int hw 8 rfl
      obtain ⟨rfl, rfl⟩ := hp
      exact ⟨⟨rfl, rfl⟩, ⟨by omega, lenI_nn _⟩, rfl⟩)
    (body_idxFew_ok)
noncomputable def fns_idxFew : Fns := (54, Try.f54, [(2, S_idxFew)]) :: fns
theorem fn_idxFew : FnOK Try.prog 54 Try.f54 [(2, S_idxFew)] := fnOK_loops Try.func54 (fun vs w => Try.call54 vs w) (by kernel_rfl) fun k S h => by
  simp only [List.mem_cons, Prod.mk.injEq, List.not_mem_nil, or_false] at h
  obtain ⟨rfl, rfl⟩ := h
  exact summ_idxFew
theorem fns_idxFewOK : FnsOK Try.prog fns_idxFew := fnsOK_cons fn_idxFew fnsOK
noncomputable def idxFewS : List AV → OV := fun args => match args with | [.view [] (.prod (.int .i64) (.prod (.int .i64) (.prod (.int .i64) (.prod (.int .i64) (.prod (.list (.prod .str (.int .i64))) (.int .i64)))))) n, .fn (.func 77) [] []] => some ([], .int .i64 (idxFew_f  n)) | _ => none
theorem idxFew_eq  (n : List (den NodeT)) : acall tab fs_isCore1 specs_copiedS fns_idxFew 100 20 54 [.view [] NodeT n, .fn (.func 77) [] []] [] (fun o mm _ _ => resN (.any) mm o = .ret (.int .i64 (idxFew_f  n))) =
  (eqD n n (need (AV.fn (Fn.func 77) (@List.nil AV) (@List.nil AV) = AV.fn (Fn.func 77) (@List.nil AV) (@List.nil AV)) (eqI (lenI n) (lenI n) (eqI 0 0 (((0 : Int) =
    0 ∧ lenI n = lenI n) ∧ ((∀ (y : X_idxFew), (y.1 = n ∧ y.2.1 = lenI n) ∧ idxFew_f y.1 = -1 → AOut.ret (AV.int IntKind.i64 (-1)) = AOut.ret (AV.int IntKind.i64 (idxFew_f
    n))) ∧ True) ∧ ∀ (y : X_idxFew), (y.1 = n ∧ y.2.1 = lenI n) ∧ y.2.2.2 = idxFew_f y.1 → AOut.ret (AV.int IntKind.i64 y.2.2.2) = AOut.ret (AV.int IntKind.i64 (idxFew_f
    n))))))) := by kernel_rfl
theorem idxFew_ok : SpecOK Try.prog 54 (fspecS (pureN [.sl NodeT] idxFewS)) := pureN_ok (mkCall fsOK_isCore1 specsOK_copiedS fns_idxFewOK) (.any) (fun vs w => Try.call54 vs w) fun args ps v h hp hw => by
  unfold idxFewS at h
  split at h
  · cases h
    rename_i n
    rw [idxFew_eq]
    refine ⟨?_⟩
    simp only [allP_cons, allP_nil, and_true] at hp
    simp only [wfAL, wfA, wfS, wfM, wfB, and_true, true_and, wfT_int, wfT_str, wfT_bool, wfT_prod] at hw
    simp only [simpsL, implies_true, forall_const, if_true, if_false, reduceCtorEq]
    (repeat' (first | with_reducible rfl | assumption | omega | trivial | (rintro y ⟨hk, hx⟩; simp_all; done) | refine ⟨?_, ?_⟩ | intro _))
  · cases h
noncomputable def FF_idxFew : FSpec := orF (pureN [.sl NodeT] idxFewS) FF_idxRight
theorem FFok_idxFew : SpecOK Try.prog 54 (fspecS FF_idxFew) := orF_ok idxFew_ok FFok_idxRight
noncomputable def fs_idxFew : FS := (54, FF_idxFew) :: fs_isCore1
theorem fsOK_idxFew : FSOK Try.prog fs_idxFew := fsOK_cons FFok_idxFew fsOK_isCore1
def isCoreF (n : List (den NodeT)) : Bool := partsB n && !(n.any idxFew_p)
noncomputable def isCoreS : List AV → OV := fun args => match args with | [.view [] (.prod (.int .i64) (.prod (.int .i64) (.prod (.int .i64) (.prod (.int .i64) (.prod (.list (.prod .str (.int .i64))) (.int .i64)))))) n] => some ([smallL n], .bool (isCoreF n)) | _ => none
theorem isCore_eq (n : List (den NodeT)) : acall tab fs_idxFew specs_copiedS fns 100 20 59 [.view [] NodeT n] [] (fun o mm _ _ => resN (.any) mm o = .ret (.bool (isCoreF n))) =
  (need (smallL n) (ifB (notB (partsB n)) (AOut.ret (AV.bool false) = AOut.ret (AV.bool (isCoreF n))) (AOut.ret (AV.bool (notB (leB 0 (idxFew_f n)))) = AOut.ret (AV.bool
    (isCoreF n))))) := by kernel_rfl
theorem isCore_ok : SpecOK Try.prog 59 (fspecS (pureN [.sl NodeT] isCoreS)) := pureN_ok (mkCall fsOK_idxFew specsOK_copiedS fnsOK) (.any) (fun vs w => Try.call59 vs w) fun args ps v h hp hw => by
  unfold isCoreS at h
  split at h
  · cases h
    rename_i n
    rw [isCore_eq]
    refine ⟨?_⟩
    simp only [allP_cons, allP_nil, and_true] at hp
    simp only [wfAL, wfA, wfS, wfM, wfB, and_true, true_and, wfT_int, wfT_str, wfT_bool, wfT_prod] at hw
    have hp' : smallL n := hp
    simp only [simpsL, implies_true, forall_const, if_true, if_false, reduceCtorEq]
    have e := idxFew_any n
    simp only [leB] at e
    simp only [isCoreF, ← e]
    refine ⟨hp', fun h => by simp [h], fun h => by simp [h]⟩
  · cases h
noncomputable def FF_isCore : FSpec := pureN [.sl NodeT] isCoreS
theorem FFok_isCore : SpecOK Try.prog 59 (fspecS FF_isCore) := isCore_ok
noncomputable def fs_isCore : FS := (59, FF_isCore) :: fs_idxFew
theorem fsOK_isCore : FSOK Try.prog fs_isCore := fsOK_cons FFok_isCore fsOK_idxFew
def badRF (fr to : Int) : Bool := (decide (to ≠ -1) && decide (to < fr)) || decide (1000 < fr) || decide (1000 < to)
noncomputable def ranges1S : List AV → OV := fun args => match args with | [.agg [.int .i64 op, .int .i64 nn, .int .i64 fr, .int .i64 to, .view [] (.prod .str (.int .i64)) ts, .int .i64 num]] => some ([], .bool (badRF fr to)) | _ => none
theorem ranges1_eq (op nn fr to : Int) (ts : List (den TermT)) (num : Int) : acall tab fs_isCore specs_copiedS fns 100 20 63 [.agg [.int .i64 op, .int .i64 nn, .int .i64 fr, .int .i64 to, .view [] TermT ts, .int .i64 num]] [] (fun o mm _ _ => resN (.any) mm o = .ret (.bool (badRF fr to))) =
  (AOut.ret (AV.bool (selB (selB (selB (notB (eqB to (-1))) (ltB to fr) false) true (ltB 1000 fr)) true (ltB 1000 to))) = AOut.ret (AV.bool (badRF fr to))) := by kernel_rfl
theorem ranges1_ok : SpecOK Try.prog 63 (fspecS (pureN [] ranges1S)) := pureN_ok (mkCall fsOK_isCore specsOK_copiedS fnsOK) (.any) (fun vs w => Try.call63 vs w) fun args ps v h hp hw => by
  unfold ranges1S at h
  split at h
  · cases h
    rename_i op nn fr to ts num
    rw [ranges1_eq]
    refine ⟨?_⟩
    simp only [allP_cons, allP_nil, and_true] at hp
    simp only [wfAL, wfA, wfS, wfM, wfB, and_true, true_and, wfT_int, wfT_str, wfT_bool, wfT_prod] at hw
    simp only [simpsL, implies_true, forall_const, if_true, if_false, reduceCtorEq]
    simp [badRF]
  · cases h
noncomputable def FF_ranges1 : FSpec := pureN [] ranges1S
theorem FFok_ranges1 : SpecOK Try.prog 63 (fspecS FF_ranges1) := ranges1_ok
noncomputable def fs_ranges1 : FS := (63, FF_ranges1) :: fs_isCore
theorem fsOK_ranges1 : FSOK Try.prog fs_ranges1 := fsOK_cons FFok_ranges1 fsOK_isCore
def idxRange_p  (x : den NodeT) : Bool := badRF x.2.2.1 x.2.2.2.1
def idxRange_f  (n : List (den NodeT)) : Int := idxG (idxRange_p ) n 0
theorem idxRange_any  (n : List (den NodeT)) : leB 0 (idxRange_f  n) = n.any (idxRange_p ) := idxG_any (by omega)
abbrev X_idxRange := List (den NodeT) × Int × Int × Int
def sh_idxRange : X_idxRange → St := fun x => match x with | (n, len, i, r) => ⟨setL (rep .bad 19) [(0, .view [] NodeT n), (7, .int .i64 len), (8, .int .i64 i), (1, .fn (.func 63) [] [])], [], [], []⟩
def shr_idxRange : X_idxRange → St := fun x => match x with | (n, len, i, r) => ⟨setL (rep .bad 19) [(0, .view [] NodeT n), (7, .int .i64 len), (8, .int .i64 i), (4, .int .i64 r), (1, .fn (.func 63) [] [])], [], [], []⟩
def sx_idxRange : AExit → X_idxRange → St := fun e => match e with | .ret => shr_idxRange | _ => sh_idxRange
def nx_idxRange (σ : St) : X_idxRange := (gV NodeT σ 0, gI σ 7, gI σ 8, gI σ 4)
def Pre_idxRange : X_idxRange → Prop := fun x => match x with | (n, len, i, r) => i = 0 ∧ len = lenI n
def E0_idxRange : X_idxRange → X_idxRange → Prop := fun x y => match x, y with | (n0, len0, i0, r0), (n, len, i, r) => (n = n0 ∧ len = len0) ∧ (idxRange_f  n = -1)
def R_idxRange : X_idxRange → X_idxRange → Prop := fun x y => match x, y with | (n0, len0, i0, r0), (n, len, i, r) => (n = n0 ∧ len = len0) ∧ (r = idxRange_f  n)
def D_idxRange : X_idxRange → LEnds X_idxRange := fun x => ⟨[(0, E0_idxRange x)], R_idxRange x⟩
noncomputable def S_idxRange : Summ := summN sh_idxRange sx_idxRange nx_idxRange Pre_idxRange D_idxRange
def Inv_idxRange : X_idxRange → X_idxRange → Prop := fun x y => match x, y with | (n0, len0, i0, r0), (n, len, i, r) => (n = n0 ∧ len = len0) ∧ ((0 ≤ i ∧ i ≤ len) ∧ idxG (idxRange_p ) (n.drop i.toNat) i = idxRange_f  n)
def M_idxRange : X_idxRange → X_idxRange → Nat := fun x y => match x, y with | (n0, len0, i0, r0), (n, len, i, r) => (len - i).toNat
theorem body_idxRange (Inv : X_idxRange → Prop) (meas : X_idxRange → Nat) (nn : Nat) (EE0 RR : X_idxRange → Prop) (n : List (den NodeT)) (len : Int) (i : Int) (r : Int) : awp tab fs_ranges1 (acall tab fs_ranges1 specs_copiedS fns 100 20) [] 100 (loopAt Try.f54 2) (bodyN sh_idxRange sx_idxRange nx_idxRange Inv meas nn ⟨[(0, EE0)], RR⟩) (sh_idxRange (n, len, i, r)) =
  (ifB (ltB i len) (need (inI i (lenI n)) (ifB (badRF (nth NodeT n i).snd.snd.fst (nth NodeT n i).snd.snd.snd.fst) (eqD n n (need (AV.fn (Fn.func 63) (@List.nil AV)
    (@List.nil AV) = AV.fn (Fn.func 63) (@List.nil AV) (@List.nil AV)) (eqI i i (eqI len len (eqI i i (RR (n, len, i, i))))))) (eqD n n (need (AV.fn (Fn.func 63) (@List.nil
    AV) (@List.nil AV) = AV.fn (Fn.func 63) (@List.nil AV) (@List.nil AV)) (eqI len len (eqI (addW IntKind.i64 i 1) (addW IntKind.i64 i 1) (Inv (n, len, addW IntKind.i64
    i 1, 0) ∧ meas (n, len, addW IntKind.i64 i 1, 0) < nn))))))) (eqD n n (need (AV.fn (Fn.func 63) (@List.nil AV) (@List.nil AV) = AV.fn (Fn.func 63) (@List.nil AV)
    (@List.nil AV)) (eqI len len (eqI i i (EE0 (n, len, i, 0))))))) := by kernel_rfl
theorem body_idxRange_ok : ∀ x y, Pre_idxRange x → Inv_idxRange x y → wfS (sh_idxRange y) → Hd (awp tab fs_ranges1 (acall tab fs_ranges1 specs_copiedS fns 100 20) [] 100 (loopAt Try.f54 2) (bodyN sh_idxRange sx_idxRange nx_idxRange (Inv_idxRange x) (M_idxRange x) (M_idxRange x y) (D_idxRange x)) (sh_idxRange y)) := by
  rintro ⟨n0, len0, i0, r0⟩ ⟨n, len, i, r⟩ hp hI hw
  obtain ⟨⟨rfl, rfl⟩, hI⟩ := hI
  have hw_n := wfL_view hw 0 rfl
  have hw_len := wfL_int hw 7 rfl
  have hw_i := wfL_int hw 8 rfl
  have hp : i0 = 0 ∧ len = lenI n := hp
  unfold D_idxRange
  rw [body_idxRange]
  refine ⟨?_⟩
  have hInv : ∀ (i : Int) (r : Int), ((0 ≤ i ∧ i ≤ len) ∧ idxG (idxRange_p ) (n.drop i.toNat) i = idxRange_f  n) → Inv_idxRange (n, len, i0, r0) (n, len, i, r) := fun _ _ h => ⟨⟨rfl, rfl⟩, h⟩
  generalize hIe : Inv_idxRange (n, len, i0, r0) = Inv at hInv ⊢
  have hMe : ∀ (i : Int) (r : Int), M_idxRange (n, len, i0, r0) (n, len, i, r) = (len - i).toNat := fun _ _ => rfl
  generalize M_idxRange (n, len, i0, r0) = Me at hMe ⊢
  have hE0 : ∀ (i : Int) (r : Int), (idxRange_f  n = -1) → E0_idxRange (n, len, i0, r0) (n, len, i, r) := fun _ _ h => ⟨⟨rfl, rfl⟩, h⟩
  generalize E0_idxRange (n, len, i0, r0) = EE0 at hE0 ⊢
  have hR : ∀ (i : Int) (r : Int), (r = idxRange_f  n) → R_idxRange (n, len, i0, r0) (n, len, i, r) := fun _ _ h => ⟨⟨rfl, rfl⟩, h⟩
  generalize R_idxRange (n, len, i0, r0) = RR at hR ⊢
  obtain ⟨hi, hI⟩ := hI
  obtain ⟨p1, rfl⟩ := hp
  by_cases hlt : i < lenI n
  · rw [drop_nth (t := NodeT) hi.1 hlt] at hI
    simp only [idxG] at hI
    have hlen := wfT_len hw_n
    have hwx := wfT_nth hw_n hi.1 hlt
    have ei : addW .i64 i 1 = i + 1 := addW64 (by omega) (by omega)
    have hin : inI i (lenI n) := ⟨hi.1, hlt⟩
    cases hb : idxRange_p  (nth NodeT n i)
    · rw [hb] at hI
      have hb2 := hb
      unfold idxRange_p at hb2
      simp only [ltB_t.2 hlt, hb2, hin, ei, hMe, simpsL, implies_true, forall_const, if_true, if_false, reduceCtorEq] at hI ⊢
      (repeat' (first | with_reducible rfl | assumption | omega | (apply Eq.symm; assumption) | (simp only [hMe]; omega) | (exact lenI_nn _) | trivial | (refine hInv _ ?_) | (refine hInv _ _ ?_) | (refine hInv _ _ _ ?_) | (refine hInv _ _ _ _ ?_) | (refine hE0 _ ?_) | (refine hE0 _ _ ?_) | (refine hE0 _ _ _ ?_) | (refine hE0 _ _ _ _ ?_) | (refine hR _ ?_) | (refine hR _ _ ?_) | (refine hR _ _ _ ?_) | (refine hR _ _ _ _ ?_) | refine ⟨?_, ?_⟩ | intro _))
    · rw [hb] at hI
      have hb2 := hb
      unfold idxRange_p at hb2
      simp only [ltB_t.2 hlt, hb2, hin, ei, hMe, simpsL, implies_true, forall_const, if_true, if_false, reduceCtorEq] at hI ⊢
      (repeat' (first | with_reducible rfl | assumption | omega | (apply Eq.symm; assumption) | (simp only [hMe]; omega) | (exact lenI_nn _) | trivial | (refine hInv _ ?_) | (refine hInv _ _ ?_) | (refine hInv _ _ _ ?_) | (refine hInv _ _ _ _ ?_) | (refine hE0 _ ?_) | (refine hE0 _ _ ?_) | (refine hE0 _ _ _ ?_) | (refine hE0 _ _ _ _ ?_) | (refine hR _ ?_) | (refine hR _ _ ?_) | (refine hR _ _ _ ?_) | (refine hR _ _ _ _ ?_) | refine ⟨?_, ?_⟩ | intro _))
  · rw [drop_all (by omega)] at hI
    simp only [idxG] at hI
    rw [ltB_f.2 (Int.not_lt.1 hlt)]
    simp only [simpsL, implies_true, forall_const, if_true, if_false, reduceCtorEq]
    (repeat' (first | with_reducible rfl | assumption | omega | (apply Eq.symm; assumption) | (simp only [hMe]; omega) | (exact lenI_nn _) | trivial | (refine hInv _ ?_) | (refine hInv _ _ ?_) | (refine hInv _ _ _ ?_) | (refine hInv _ _ _ _ ?_) | (refine hE0 _ ?_) | (refine hE0 _ _ ?_) | (refine hE0 _ _ _ ?_) | (refine hE0 _ _ _ _ ?_) | (refine hR _ ?_) | (refine hR _ _ ?_) | (refine hR _ _ _ ?_) | (refine hR _ _ _ _ ?_) | refine ⟨?_, ?_⟩ | intro _))
theorem summ_idxRange : SummOK Try.prog (loopAt Try.f54 2) S_idxRange :=
  summN_ok (L := []) (fuel := 100) tabOK fsOK_ranges1 (mkCall fsOK_ranges1 specsOK_copiedS fnsOK) (fun C => mkDraw fsOK_ranges1 (mkCall fsOK_ranges1 specsOK_copiedS fnsOK) C) loopsOK_nil Inv_idxRange M_idxRange
    (fun x hp hw => by
      obtain ⟨n, len, i, r⟩ := x
      have hp : i = 0 ∧ len = lenI n := hp
      have hw_n := wfL_view hw 0 rfl
      have hw_len := wfL_int hw 7 rfl
      have hw_i := wfL_int hw 8 rfl
      obtain ⟨rfl, rfl⟩ := hp
      exact ⟨⟨rfl, rfl⟩, ⟨by omega, lenI_nn _⟩, rfl⟩)
    (body_idxRange_ok)
noncomputable def fns_idxRange : Fns := (54, Try.f54, [(2, S_idxRange)]) :: fns
theorem fn_idxRange : FnOK Try.prog 54 Try.f54 [(2, S_idxRange)] := fnOK_loops Try.func54 (fun vs w => Try.call54 vs w) (by kernel_rfl) fun k S h => by
  simp only [List.mem_cons, Prod.mk.injEq, List.not_mem_nil, or_false] at h
  obtain ⟨rfl, rfl⟩ := h
  exact summ_idxRange
theorem fns_idxRangeOK : FnsOK Try.prog fns_idxRange := fnsOK_cons fn_idxRange fnsOK
noncomputable def idxRangeS : List AV → OV := fun args => match args with | [.view [] (.prod (.int .i64) (.prod (.int .i64) (.prod (.int .i64) (.prod (.int .i64) (.prod (.list (.prod .str (.int .i64))) (.int .i64)))))) n, .fn (.func 63) [] []] => some ([], .int .i64 (idxRange_f  n)) | _ => none
theorem idxRange_eq  (n : List (den NodeT)) : acall tab fs_ranges1 specs_copiedS fns_idxRange 100 20 54 [.view [] NodeT n, .fn (.func 63) [] []] [] (fun o mm _ _ => resN (.any) mm o = .ret (.int .i64 (idxRange_f  n))) =
  (eqD n n (need (AV.fn (Fn.func 63) (@List.nil AV) (@List.nil AV) = AV.fn (Fn.func 63) (@List.nil AV) (@List.nil AV)) (eqI (lenI n) (lenI n) (eqI 0 0 (((0 : Int) =
    0 ∧ lenI n = lenI n) ∧ ((∀ (y : X_idxRange), (y.1 = n ∧ y.2.1 = lenI n) ∧ idxRange_f y.1 = -1 → AOut.ret (AV.int IntKind.i64 (-1)) = AOut.ret (AV.int IntKind.i64
    (idxRange_f n))) ∧ True) ∧ ∀ (y : X_idxRange), (y.1 = n ∧ y.2.1 = lenI n) ∧ y.2.2.2 = idxRange_f y.1 → AOut.ret (AV.int IntKind.i64 y.2.2.2) = AOut.ret (AV.int IntKind.i64
    (idxRange_f n))))))) := by kernel_rfl
theorem idxRange_ok : SpecOK Try.prog 54 (fspecS (pureN [.sl NodeT] idxRangeS)) := pureN_ok (mkCall fsOK_ranges1 specsOK_copiedS fns_idxRangeOK) (.any) (fun vs w => Try.call54 vs w) fun args ps v h hp hw => by
  unfold idxRangeS at h
  split at h
  · cases h
    rename_i n
    rw [idxRange_eq]
    refine ⟨?_⟩
    simp only [allP_cons, allP_nil, and_true] at hp
    simp only [wfAL, wfA, wfS, wfM, wfB, and_true, true_and, wfT_int, wfT_str, wfT_bool, wfT_prod] at hw
    simp only [simpsL, implies_true, forall_const, if_true, if_false, reduceCtorEq]
    (repeat' (first | with_reducible rfl | assumption | omega | trivial | (rintro y ⟨hk, hx⟩; simp_all; done) | refine ⟨?_, ?_⟩ | intro _))
  · cases h
noncomputable def FF_idxRange : FSpec := orF (pureN [.sl NodeT] idxRangeS) FF_idxFew
theorem FFok_idxRange : SpecOK Try.prog 54 (fspecS FF_idxRange) := orF_ok idxRange_ok FFok_idxFew
noncomputable def fs_idxRange : FS := (54, FF_idxRange) :: fs_ranges1
theorem fsOK_idxRange : FSOK Try.prog fs_idxRange := fsOK_cons FFok_idxRange fsOK_ranges1
def rangesF (n : List (den NodeT)) : Bool := !(n.any idxRange_p)
noncomputable def rangesS : List AV → OV := fun args => match args with | [.view [] (.prod (.int .i64) (.prod (.int .i64) (.prod (.int .i64) (.prod (.int .i64) (.prod (.list (.prod .str (.int .i64))) (.int .i64)))))) n] => some ([], .bool (rangesF n)) | _ => none
theorem ranges_eq (n : List (den NodeT)) : acall tab fs_idxRange specs_copiedS fns 100 20 39 [.view [] NodeT n] [] (fun o mm _ _ => resN (.any) mm o = .ret (.bool (rangesF n))) =
  (AOut.ret (AV.bool (notB (leB 0 (idxRange_f n)))) = AOut.ret (AV.bool (rangesF n))) := by kernel_rfl
theorem ranges_ok : SpecOK Try.prog 39 (fspecS (pureN [.sl NodeT] rangesS)) := pureN_ok (mkCall fsOK_idxRange specsOK_copiedS fnsOK) (.any) (fun vs w => Try.call39 vs w) fun args ps v h hp hw => by
  unfold rangesS at h
  split at h
  · cases h
    rename_i n
    rw [ranges_eq]
    refine ⟨?_⟩
    simp only [allP_cons, allP_nil, and_true] at hp
    simp only [wfAL, wfA, wfS, wfM, wfB, and_true, true_and, wfT_int, wfT_str, wfT_bool, wfT_prod] at hw
    simp only [simpsL, implies_true, forall_const, if_true, if_false, reduceCtorEq]
    have e := idxRange_any n
    simp only [leB] at e
    simp only [rangesF, ← e]
  · cases h
noncomputable def FF_ranges : FSpec := pureN [.sl NodeT] rangesS
theorem FFok_ranges : SpecOK Try.prog 39 (fspecS FF_ranges) := ranges_ok
noncomputable def fs_ranges : FS := (39, FF_ranges) :: fs_idxRange
theorem fsOK_ranges : FSOK Try.prog fs_ranges := fsOK_cons FFok_ranges fsOK_idxRange
noncomputable def cpartsS : List AV → OV := fun args => match args with | [.view [] (.prod (.int .i64) (.prod (.int .i64) (.prod (.int .i64) (.prod (.int .i64) (.prod (.list (.prod .str (.int .i64))) (.int .i64)))))) n] => some ([smallL n], .view [] (.list NodeT) (partsF n)) | _ => none
theorem cparts_eq (n : List (den NodeT)) : acall tab fs_ranges specs_copiedS fns 100 20 64 [.view [] NodeT n] [] (fun o mm _ _ => resN (.sl (.list NodeT)) mm o = .ret (.view [] (.list NodeT) (partsF n))) =
  (need (smallL n) (AOut.ret (AV.view (@List.nil Nat) NodeT.list (partsF n)) = AOut.ret (AV.view (@List.nil Nat) NodeT.list (partsF n)))) := by kernel_rfl
theorem cparts_ok : SpecOK Try.prog 64 (fspecS (pureN [.sl NodeT] cpartsS)) := pureN_ok (mkCall fsOK_ranges specsOK_copiedS fnsOK) (.sl (.list NodeT)) (fun vs w => Try.call64 vs w) fun args ps v h hp hw => by
  unfold cpartsS at h
  split at h
  · cases h
    rename_i n
    rw [cparts_eq]
    refine ⟨?_⟩
    simp only [allP_cons, allP_nil, and_true] at hp
    simp only [wfAL, wfA, wfS, wfM, wfB, and_true, true_and, wfT_int, wfT_str, wfT_bool, wfT_prod] at hw
    have hp' : smallL n := hp
    simp only [simpsL, implies_true, forall_const, if_true, if_false, reduceCtorEq]
    exact hp'
  · cases h
noncomputable def FF_cparts : FSpec := pureN [.sl NodeT] cpartsS
theorem FFok_cparts : SpecOK Try.prog 64 (fspecS FF_cparts) := cparts_ok
noncomputable def fs_cparts : FS := (64, FF_cparts) :: fs_ranges
theorem fsOK_cparts : FSOK Try.prog fs_cparts := fsOK_cons FFok_cparts fsOK_ranges
abbrev X_ccopiedL := List (den NodeT) × Int × Int
def sh_ccopiedL : X_ccopiedL → St := fun x => match x with | (xs, len, i) => ⟨setL (rep .bad 24) [(8, .int .i64 len), (9, .int .i64 i), (3, .own 0)], [.row 24 NodeT xs []], [0, 1], [0, 1]⟩
def sx_ccopiedL : AExit → X_ccopiedL → St := fun _ => sh_ccopiedL
def nx_ccopiedL (σ : St) : X_ccopiedL := (rV NodeT σ 0, gI σ 8, gI σ 9)
def Pre_ccopiedL : X_ccopiedL → Prop := fun x => match x with | (xs, len, i) => i = 0 ∧ len = lenI xs ∧ termsFit xs
def E0_ccopiedL : X_ccopiedL → X_ccopiedL → Prop := fun x y => match x, y with | (xs0, len0, i0), (xs, len, i) => (xs = xs0 ∧ len = len0) ∧ (True)
def R_ccopiedL : X_ccopiedL → X_ccopiedL → Prop := fun x y => match x, y with | (xs0, len0, i0), (xs, len, i) => (xs = xs0 ∧ len = len0) ∧ (False)
def D_ccopiedL : X_ccopiedL → LEnds X_ccopiedL := fun x => ⟨[(0, E0_ccopiedL x)], R_ccopiedL x⟩
noncomputable def S_ccopiedL : Summ := summN sh_ccopiedL sx_ccopiedL nx_ccopiedL Pre_ccopiedL D_ccopiedL
def Inv_ccopiedL : X_ccopiedL → X_ccopiedL → Prop := fun x y => match x, y with | (xs0, len0, i0), (xs, len, i) => (xs = xs0 ∧ len = len0) ∧ ((0 ≤ i ∧ i ≤ len))
def M_ccopiedL : X_ccopiedL → X_ccopiedL → Nat := fun x y => match x, y with | (xs0, len0, i0), (xs, len, i) => (len - i).toNat
theorem body_ccopiedL (Inv : X_ccopiedL → Prop) (meas : X_ccopiedL → Nat) (nn : Nat) (EE0 RR : X_ccopiedL → Prop) (xs : List (den NodeT)) (len : Int) (i : Int) : awp tab fs_cparts (acall tab fs_cparts specs_copiedS fns 100 20) [] 100 (loopAt Try.f70 3) (bodyN sh_ccopiedL sx_ccopiedL nx_ccopiedL Inv meas nn ⟨[(0, EE0)], RR⟩) (sh_ccopiedL (xs, len, i)) =
  (ifB (ltB i len) (need (inI i (lenI xs)) (need (inI i (lenI xs)) (need (fits (nth NodeT xs i).snd.snd.snd.snd.fst) (need (inI i (lenI xs)) (need (inI i (lenI xs))
    (eqI len len (eqI (addW IntKind.i64 i 1) (addW IntKind.i64 i 1) (eqD (setI xs i ((nth NodeT xs i).fst, (nth NodeT xs i).snd.fst, (nth NodeT xs i).snd.snd.fst, (nth
    NodeT xs i).snd.snd.snd.fst, (nth NodeT xs i).2.2.2.2.1, (nth NodeT xs i).snd.snd.snd.snd.snd)) (setI xs i ((nth NodeT xs i).fst, (nth NodeT xs i).snd.fst, (nth
    NodeT xs i).snd.snd.fst, (nth NodeT xs i).snd.snd.snd.fst, (nth NodeT xs i).2.2.2.2.1, (nth NodeT xs i).snd.snd.snd.snd.snd)) (Inv (setI xs i ((nth NodeT xs i).fst,
    (nth NodeT xs i).snd.fst, (nth NodeT xs i).snd.snd.fst, (nth NodeT xs i).snd.snd.snd.fst, (nth NodeT xs i).2.2.2.2.1, (nth NodeT xs i).snd.snd.snd.snd.snd), len,
    addW IntKind.i64 i 1) ∧ meas (setI xs i ((nth NodeT xs i).fst, (nth NodeT xs i).snd.fst, (nth NodeT xs i).snd.snd.fst, (nth NodeT xs i).snd.snd.snd.fst, (nth NodeT
    xs i).2.2.2.2.1, (nth NodeT xs i).snd.snd.snd.snd.snd), len, addW IntKind.i64 i 1) < nn))))))))) (eqI len len (eqI i i (eqD xs xs (EE0 (xs, len, i)))))) := by kernel_rfl
theorem body_ccopiedL_ok : ∀ x y, Pre_ccopiedL x → Inv_ccopiedL x y → wfS (sh_ccopiedL y) → Hd (awp tab fs_cparts (acall tab fs_cparts specs_copiedS fns 100 20) [] 100 (loopAt Try.f70 3) (bodyN sh_ccopiedL sx_ccopiedL nx_ccopiedL (Inv_ccopiedL x) (M_ccopiedL x) (M_ccopiedL x y) (D_ccopiedL x)) (sh_ccopiedL y)) := by
  rintro ⟨xs0, len0, i0⟩ ⟨xs, len, i⟩ hp hI hw
  obtain ⟨⟨rfl, rfl⟩, hI⟩ := hI
  have hw_xs := wfR_row hw 0 rfl
  have hw_len := wfL_int hw 8 rfl
  have hw_i := wfL_int hw 9 rfl
  have hp : i0 = 0 ∧ len = lenI xs ∧ termsFit xs := hp
  unfold D_ccopiedL
  rw [body_ccopiedL]
  refine ⟨?_⟩
  have hInv : ∀ (i : Int), ((0 ≤ i ∧ i ≤ len)) → Inv_ccopiedL (xs, len, i0) (xs, len, i) := fun _ h => ⟨⟨rfl, rfl⟩, h⟩
  generalize hIe : Inv_ccopiedL (xs, len, i0) = Inv at hInv ⊢
  have hMe : ∀ (i : Int), M_ccopiedL (xs, len, i0) (xs, len, i) = (len - i).toNat := fun _ => rfl
  generalize M_ccopiedL (xs, len, i0) = Me at hMe ⊢
  have hE0 : ∀ (i : Int), (True) → E0_ccopiedL (xs, len, i0) (xs, len, i) := fun _ h => ⟨⟨rfl, rfl⟩, h⟩
  generalize E0_ccopiedL (xs, len, i0) = EE0 at hE0 ⊢
  have hR : ∀ (i : Int), (False) → R_ccopiedL (xs, len, i0) (xs, len, i) := fun _ h => ⟨⟨rfl, rfl⟩, h⟩
  generalize R_ccopiedL (xs, len, i0) = RR at hR ⊢
  obtain ⟨p1, rfl, p3⟩ := hp
  have hlen := wfT_len hw_xs
  have hI' : 0 ≤ i ∧ i ≤ lenI xs := hI
  by_cases hlt : i < lenI xs
  · have ei : addW .i64 i 1 = i + 1 := addW64 (by omega) (by omega)
    have hin : inI i (lenI xs) := ⟨hI'.1, hlt⟩
    have hfx : fits (nth NodeT xs i).2.2.2.2.1 := p3 _ (nth_mem hI'.1 hlt)
    have hset : setI xs i ((nth NodeT xs i).1, (nth NodeT xs i).2.1, (nth NodeT xs i).2.2.1, (nth NodeT xs i).2.2.2.1, (nth NodeT xs i).2.2.2.2.1, (nth NodeT xs i).2.2.2.2.2) = xs := setI_nth (t := NodeT) hI'.1 hlt
    simp only [ltB_t.2 hlt, hin, hfx, hset, ei, simpsL, implies_true, forall_const, if_true, if_false, reduceCtorEq]
    (repeat' (first | with_reducible rfl | assumption | omega | (apply Eq.symm; assumption) | (simp only [hMe]; omega) | (exact lenI_nn _) | trivial | (refine hInv _ ?_) | (refine hInv _ _ ?_) | (refine hInv _ _ _ ?_) | (refine hInv _ _ _ _ ?_) | (refine hE0 _ ?_) | (refine hE0 _ _ ?_) | (refine hE0 _ _ _ ?_) | (refine hE0 _ _ _ _ ?_) | (refine hR _ ?_) | (refine hR _ _ ?_) | (refine hR _ _ _ ?_) | (refine hR _ _ _ _ ?_) | refine ⟨?_, ?_⟩ | intro _))
  · simp only [ltB_f.2 (Int.not_lt.1 hlt), simpsL, implies_true, forall_const, if_true, if_false, reduceCtorEq]
    (repeat' (first | with_reducible rfl | assumption | omega | (apply Eq.symm; assumption) | (simp only [hMe]; omega) | (exact lenI_nn _) | trivial | (refine hInv _ ?_) | (refine hInv _ _ ?_) | (refine hInv _ _ _ ?_) | (refine hInv _ _ _ _ ?_) | (refine hE0 _ ?_) | (refine hE0 _ _ ?_) | (refine hE0 _ _ _ ?_) | (refine hE0 _ _ _ _ ?_) | (refine hR _ ?_) | (refine hR _ _ ?_) | (refine hR _ _ _ ?_) | (refine hR _ _ _ _ ?_) | refine ⟨?_, ?_⟩ | intro _))
theorem summ_ccopiedL : SummOK Try.prog (loopAt Try.f70 3) S_ccopiedL :=
  summN_ok (L := []) (fuel := 100) tabOK fsOK_cparts (mkCall fsOK_cparts specsOK_copiedS fnsOK) (fun C => mkDraw fsOK_cparts (mkCall fsOK_cparts specsOK_copiedS fnsOK) C) loopsOK_nil Inv_ccopiedL M_ccopiedL
    (fun x hp hw => by
      obtain ⟨xs, len, i⟩ := x
      have hp : i = 0 ∧ len = lenI xs ∧ termsFit xs := hp
      have hw_xs := wfR_row hw 0 rfl
      have hw_len := wfL_int hw 8 rfl
      have hw_i := wfL_int hw 9 rfl
      obtain ⟨rfl, rfl, h⟩ := hp
      exact ⟨⟨rfl, rfl⟩, by omega, lenI_nn _⟩)
    (body_ccopiedL_ok)
noncomputable def fns_ccopied : Fns := (70, Try.f70, [(3, S_ccopiedL)]) :: fns
theorem fn_ccopied : FnOK Try.prog 70 Try.f70 [(3, S_ccopiedL)] := fnOK_loops Try.func70 (fun vs w => Try.call70 vs w) (by kernel_rfl) fun k S h => by
  simp only [List.mem_cons, Prod.mk.injEq, List.not_mem_nil, or_false] at h
  obtain ⟨rfl, rfl⟩ := h
  exact summ_ccopiedL
theorem fns_ccopiedOK : FnsOK Try.prog fns_ccopied := fnsOK_cons fn_ccopied fnsOK
noncomputable def ccopiedS : List AV → OV := fun args => match args with | [.view [] (.prod (.int .i64) (.prod (.int .i64) (.prod (.int .i64) (.prod (.int .i64) (.prod (.list (.prod .str (.int .i64))) (.int .i64)))))) n] => some ([fits n, termsFit n], .view [] NodeT n) | _ => none
theorem ccopied_eq (n : List (den NodeT)) : acall tab fs_cparts specs_copiedS fns_ccopied 100 20 70 [.view [] NodeT n] [] (fun o mm _ _ => resN (.sl NodeT) mm o = .ret (.view [] NodeT n)) =
  (need (imp (lenI n = 0) (eqI 0 0 (eqI 0 0 (eqD (@List.nil (den NodeT)) (@List.nil (den NodeT)) (((0 : Int) = 0 ∧ (0 : Int) = 0 ∧ termsFit (@List.nil (den NodeT)))
    ∧ ((∀ (y : X_ccopiedL), (y.1 = @List.nil (den NodeT) ∧ y.2.1 = 0) ∧ True → AOut.ret (AV.view (@List.nil Nat) NodeT y.1) = AOut.ret (AV.view (@List.nil Nat) NodeT
    n)) ∧ True) ∧ ∀ (y : X_ccopiedL), (y.1 = @List.nil (den NodeT) ∧ y.2.1 = 0) ∧ False → AOut.ret AV.bad = AOut.ret (AV.view (@List.nil Nat) NodeT n)))))) (need (fitA
    (0 + lenI n)) (eqI (lenI (appL (@List.nil (den NodeT)) n)) (lenI (appL (@List.nil (den NodeT)) n)) (eqI 0 0 (eqD (appL (@List.nil (den NodeT)) n) (appL (@List.nil
    (den NodeT)) n) (((0 : Int) = 0 ∧ lenI (appL (@List.nil (den NodeT)) n) = lenI (appL (@List.nil (den NodeT)) n) ∧ termsFit (appL (@List.nil (den NodeT)) n)) ∧ ((∀
    (y : X_ccopiedL), (y.1 = appL (@List.nil (den NodeT)) n ∧ y.2.1 = lenI (appL (@List.nil (den NodeT)) n)) ∧ True → AOut.ret (AV.view (@List.nil Nat) NodeT y.1) =
    AOut.ret (AV.view (@List.nil Nat) NodeT n)) ∧ True) ∧ ∀ (y : X_ccopiedL), (y.1 = appL (@List.nil (den NodeT)) n ∧ y.2.1 = lenI (appL (@List.nil (den NodeT)) n))
    ∧ False → AOut.ret AV.bad = AOut.ret (AV.view (@List.nil Nat) NodeT n))))))) := by kernel_rfl
theorem ccopied_ok : SpecOK Try.prog 70 (fspecS (pureN [.sl NodeT] ccopiedS)) := pureN_ok (mkCall fsOK_cparts specsOK_copiedS fns_ccopiedOK) (.sl NodeT) (fun vs w => Try.call70 vs w) fun args ps v h hp hw => by
  unfold ccopiedS at h
  split at h
  · cases h
    rename_i n
    rw [ccopied_eq]
    refine ⟨?_⟩
    simp only [allP_cons, allP_nil, and_true] at hp
    simp only [wfAL, wfA, wfS, wfM, wfB, and_true, true_and, wfT_int, wfT_str, wfT_bool, wfT_prod] at hw
    unfold fits at hp
    simp only [simpsL, implies_true, forall_const, if_true, if_false, reduceCtorEq]
    refine ⟨fun h => ?_, by unfold fitA; omega, by simpa using hp.2, ?_⟩
    · have e := len_zero.1 h
      subst e
      refine ⟨hp.2, ?_⟩
      rintro y ⟨h1, h2⟩
      rw [h1]
    · rintro y ⟨h1, h2⟩
      rw [h1, List.nil_append]
  · cases h
noncomputable def FF_ccopied : FSpec := pureN [.sl NodeT] ccopiedS
theorem FFok_ccopied : SpecOK Try.prog 70 (fspecS FF_ccopied) := ccopied_ok
noncomputable def fs_ccopied : FS := (70, FF_ccopied) :: fs_cparts
theorem fsOK_ccopied : FSOK Try.prog fs_ccopied := fsOK_cons FFok_ccopied fsOK_cparts
def treeOK (n : List (den NodeT)) : Prop := smallL n ∧ termsFit n
def notF (n : List (den NodeT)) : List (den NodeT) := if isOpF n 0 = true then [nd 1] else if isOpF n 1 = true then [nd 0] else if isOpF n 3 = true then n.drop 1 else makeF 3 0 0 [] 0 [n]
def prevF (n : List (den NodeT)) : List (den NodeT) := if isOpF n 1 = true then n else makeF 7 0 0 [] 0 [n]
def sinceF (fr to : Int) (p q : List (den NodeT)) : List (den NodeT) := if isOpF q 1 = true ∨ (to ≠ -1 ∧ to < fr) then [nd 1] else if fr = 0 ∧ to = 0 then q else if isOpF p 1 = true ∧ fr = 0 then q else if isOpF p 1 = true then [nd 1] else makeF 10 fr to [] 0 [p, q]
theorem fits_small {α : Type} {n : List α} (h : lenI n ≤ 1000000) : fits n := by unfold fits; omega
theorem allFit_one {n : List (den NodeT)} (h : treeOK n) : allFit [n] := by
  have h1 : lenI n ≤ 1000000 := h.1
  refine ⟨fun m hm => ?_, ?_⟩
  · rw [List.mem_singleton] at hm; subst hm; exact ⟨fits_small h1, h.2⟩
  · simpa using fits_small h1
theorem allFit_two {n m : List (den NodeT)} (h : treeOK n) (k : treeOK m) : allFit [n, m] := by
  have h1 : lenI n ≤ 1000000 := h.1
  have h2 : lenI m ≤ 1000000 := k.1
  refine ⟨fun l hl => ?_, ?_⟩
  · simp only [List.mem_cons, List.not_mem_nil, or_false] at hl
    rcases hl with rfl | rfl
    · exact ⟨fits_small h1, h.2⟩
    · exact ⟨fits_small h2, k.2⟩
  · unfold fits lenI at *; simp; omega
noncomputable def cnotS : List AV → OV := fun args => match args with | [.view [] (.prod (.int .i64) (.prod (.int .i64) (.prod (.int .i64) (.prod (.int .i64) (.prod (.list (.prod .str (.int .i64))) (.int .i64)))))) n] => some ([treeOK n], .view [] NodeT (notF n)) | _ => none
theorem cnot_eq (n : List (den NodeT)) : acall tab fs_ccopied specs_copiedS fns 100 20 65 [.view [] NodeT n] [] (fun o mm _ _ => resN (.sl NodeT) mm o = .ret (.view [] NodeT (notF n))) =
  (ifB (isOpF n 0) (AOut.ret (AV.view (@List.nil Nat) NodeT ((1, 0, 0, 0, @List.nil (den TermT), 0) :: @List.nil (den NodeT))) = AOut.ret (AV.view (@List.nil Nat) NodeT
    (notF n))) (ifB (isOpF n 1) (AOut.ret (AV.view (@List.nil Nat) NodeT ((0, 0, 0, 0, @List.nil (den TermT), 0) :: @List.nil (den NodeT))) = AOut.ret (AV.view (@List.nil
    Nat) NodeT (notF n))) (ifB (isOpF n 3) (need (leI 0 1) (need (leI 1 (lenI n)) (need (leI (lenI n) (lenI n)) (need (fits (subL n 1 (lenI n))) (need (termsFit (subL
    n 1 (lenI n))) (AOut.ret (AV.view (@List.nil Nat) NodeT (subL n 1 (lenI n))) = AOut.ret (AV.view (@List.nil Nat) NodeT (notF n)))))))) (need (fits (@List.nil (den
    TermT))) (need (allFit (n :: @List.nil (den NodeT.list))) (AOut.ret (AV.view (@List.nil Nat) NodeT (makeF 3 0 0 (@List.nil (den TermT)) 0 (n :: @List.nil (den NodeT.list))))
    = AOut.ret (AV.view (@List.nil Nat) NodeT (notF n)))))))) := by kernel_rfl
theorem cnot_ok : SpecOK Try.prog 65 (fspecS (pureN [.sl NodeT] cnotS)) := pureN_ok (mkCall fsOK_ccopied specsOK_copiedS fnsOK) (.sl NodeT) (fun vs w => Try.call65 vs w) fun args ps v h hp hw => by
  unfold cnotS at h
  split at h
  · cases h
    rename_i n
    rw [cnot_eq]
    refine ⟨?_⟩
    simp only [allP_cons, allP_nil, and_true] at hp
    simp only [wfAL, wfA, wfS, wfM, wfB, and_true, true_and, wfT_int, wfT_str, wfT_bool, wfT_prod] at hw
    have hp' : treeOK n := hp
    obtain ⟨h1, h2⟩ := hp'
    have hs := h1
    unfold smallL at hs
    have hn := lenI_nn n
    simp only [simpsL, implies_true, forall_const, if_true, if_false, reduceCtorEq]
    unfold notF
    have fe : fits ([] : List (den TermT)) := by unfold fits lenI; simp
    refine ⟨fun h => by rw [if_pos h]; rfl, fun h => ⟨fun h4 => ?_, fun h4 => ⟨fun h5 => ?_, fun h5 => ⟨fe, ?_, ?_⟩⟩⟩⟩
    · rw [if_neg (by simp [h]), if_pos h4]; rfl
    · have hne : n ≠ [] := fun e => by subst e; cases h5
      have h1n : 1 ≤ lenI n := by cases n with | nil => exact absurd rfl hne | cons x l => have := lenI_nn l; rw [len_cons]; omega
      have e : subL n 1 (lenI n) = n.drop 1 := by simp [subL, lenI]
      rw [e, if_neg (by simp [h]), if_neg (by simp [h4]), if_pos h5]
      refine ⟨by unfold leI; omega, h1n, Int.le_refl _, ?_, fun x hx => h2 x (List.mem_of_mem_drop hx), rfl⟩
      unfold fits; unfold lenI at *; simp only [List.length_drop]; omega
    · exact allFit_one hp
    · rw [if_neg (by simp [h]), if_neg (by simp [h4]), if_neg (by simp [h5])]
  · cases h
noncomputable def FF_cnot : FSpec := pureN [.sl NodeT] cnotS
theorem FFok_cnot : SpecOK Try.prog 65 (fspecS FF_cnot) := cnot_ok
noncomputable def fs_cnot : FS := (65, FF_cnot) :: fs_ccopied
theorem fsOK_cnot : FSOK Try.prog fs_cnot := fsOK_cons FFok_cnot fsOK_ccopied
noncomputable def cprevS : List AV → OV := fun args => match args with | [.view [] (.prod (.int .i64) (.prod (.int .i64) (.prod (.int .i64) (.prod (.int .i64) (.prod (.list (.prod .str (.int .i64))) (.int .i64)))))) n] => some ([treeOK n], .view [] NodeT (prevF n)) | _ => none
theorem cprev_eq (n : List (den NodeT)) : acall tab fs_cnot specs_copiedS fns 100 20 68 [.view [] NodeT n] [] (fun o mm _ _ => resN (.sl NodeT) mm o = .ret (.view [] NodeT (prevF n))) =
  (ifB (isOpF n 1) (need (fits n) (need (termsFit n) (AOut.ret (AV.view (@List.nil Nat) NodeT n) = AOut.ret (AV.view (@List.nil Nat) NodeT (prevF n))))) (need (fits
    (@List.nil (den TermT))) (need (allFit (n :: @List.nil (den NodeT.list))) (AOut.ret (AV.view (@List.nil Nat) NodeT (makeF 7 0 0 (@List.nil (den TermT)) 0 (n :: @List.nil
    (den NodeT.list)))) = AOut.ret (AV.view (@List.nil Nat) NodeT (prevF n)))))) := by kernel_rfl
theorem cprev_ok : SpecOK Try.prog 68 (fspecS (pureN [.sl NodeT] cprevS)) := pureN_ok (mkCall fsOK_cnot specsOK_copiedS fnsOK) (.sl NodeT) (fun vs w => Try.call68 vs w) fun args ps v h hp hw => by
  unfold cprevS at h
  split at h
  · cases h
    rename_i n
    rw [cprev_eq]
    refine ⟨?_⟩
    simp only [allP_cons, allP_nil, and_true] at hp
    simp only [wfAL, wfA, wfS, wfM, wfB, and_true, true_and, wfT_int, wfT_str, wfT_bool, wfT_prod] at hw
    have hp' : treeOK n := hp
    obtain ⟨h1, h2⟩ := hp'
    simp only [simpsL, implies_true, forall_const, if_true, if_false, reduceCtorEq]
    unfold prevF
    have fe : fits ([] : List (den TermT)) := by unfold fits lenI; simp
    refine ⟨fun h => ⟨?_, h2, by rw [if_pos h]⟩, fun h => ⟨fe, allFit_one hp, by rw [if_neg (by simp [h])]⟩⟩
    unfold smallL at h1; unfold fits; omega
  · cases h
noncomputable def FF_cprev : FSpec := pureN [.sl NodeT] cprevS
theorem FFok_cprev : SpecOK Try.prog 68 (fspecS FF_cprev) := cprev_ok
noncomputable def fs_cprev : FS := (68, FF_cprev) :: fs_cnot
theorem fsOK_cprev : FSOK Try.prog fs_cprev := fsOK_cons FFok_cprev fsOK_cnot
noncomputable def csinceS : List AV → OV := fun args => match args with | [.int .i64 fr, .int .i64 to, .view [] (.prod (.int .i64) (.prod (.int .i64) (.prod (.int .i64) (.prod (.int .i64) (.prod (.list (.prod .str (.int .i64))) (.int .i64)))))) p, .view [] (.prod (.int .i64) (.prod (.int .i64) (.prod (.int .i64) (.prod (.int .i64) (.prod (.list (.prod .str (.int .i64))) (.int .i64)))))) q] => some ([treeOK p, treeOK q], .view [] NodeT (sinceF fr to p q)) | _ => none
theorem csince_eq (fr to : Int) (p q : List (den NodeT)) : acall tab fs_cprev specs_copiedS fns 100 20 69 [.int .i64 fr, .int .i64 to, .view [] NodeT p, .view [] NodeT q] [] (fun o mm _ _ => resN (.sl NodeT) mm o = .ret (.view [] NodeT (sinceF fr to p q))) =
  (ifB (selB (isOpF q 1) true (selB (notB (eqB to (-1))) (ltB to fr) false)) (AOut.ret (AV.view (@List.nil Nat) NodeT ((1, 0, 0, 0, @List.nil (den TermT), 0) :: @List.nil
    (den NodeT))) = AOut.ret (AV.view (@List.nil Nat) NodeT (sinceF fr to p q))) (ifB (selB (eqB fr 0) (eqB to 0) false) (need (fits q) (need (termsFit q) (AOut.ret
    (AV.view (@List.nil Nat) NodeT q) = AOut.ret (AV.view (@List.nil Nat) NodeT (sinceF fr to p q))))) (ifB (selB (isOpF p 1) (eqB fr 0) false) (need (fits q) (need
    (termsFit q) (AOut.ret (AV.view (@List.nil Nat) NodeT q) = AOut.ret (AV.view (@List.nil Nat) NodeT (sinceF fr to p q))))) (ifB (isOpF p 1) (AOut.ret (AV.view (@List.nil
    Nat) NodeT ((1, 0, 0, 0, @List.nil (den TermT), 0) :: @List.nil (den NodeT))) = AOut.ret (AV.view (@List.nil Nat) NodeT (sinceF fr to p q))) (need (fits (@List.nil
    (den TermT))) (need (allFit (p :: q :: @List.nil (den NodeT.list))) (AOut.ret (AV.view (@List.nil Nat) NodeT (makeF 10 fr to (@List.nil (den TermT)) 0 (p :: q ::
    @List.nil (den NodeT.list)))) = AOut.ret (AV.view (@List.nil Nat) NodeT (sinceF fr to p q))))))))) := by kernel_rfl
theorem csince_ok : SpecOK Try.prog 69 (fspecS (pureN [.any, .any, .sl NodeT, .sl NodeT] csinceS)) := pureN_ok (mkCall fsOK_cprev specsOK_copiedS fnsOK) (.sl NodeT) (fun vs w => Try.call69 vs w) fun args ps v h hp hw => by
  unfold csinceS at h
  split at h
  · cases h
    rename_i fr to p q
    rw [csince_eq]
    refine ⟨?_⟩
    simp only [allP_cons, allP_nil, and_true] at hp
    simp only [wfAL, wfA, wfS, wfM, wfB, and_true, true_and, wfT_int, wfT_str, wfT_bool, wfT_prod] at hw
    obtain ⟨hp1, hp2⟩ := hp
    simp only [simpsL, implies_true, forall_const, if_true, if_false, reduceCtorEq]
    unfold sinceF
    have fe : fits ([] : List (den TermT)) := by unfold fits lenI; simp
    refine ⟨fun h => by rw [if_pos h]; rfl, fun h => ?_⟩
    have hn : ¬ (isOpF q 1 = true ∨ to ≠ -1 ∧ to < fr) := by
      rintro (h1 | h1)
      · rw [h1] at h; simp at h
      · omega
    rw [if_neg hn]
    refine ⟨fun h2 => ⟨fits_small hp2.1, hp2.2, by rw [if_pos h2]⟩, fun h2 => ?_⟩
    rw [if_neg (by omega)]
    refine ⟨fun h3 => ⟨fits_small hp2.1, hp2.2, by rw [if_pos h3]⟩, fun h3 => ?_⟩
    rw [if_neg (by rintro ⟨h4, h5⟩; rw [h4] at h3; simp [h5] at h3)]
    refine ⟨fun h4 => by rw [if_pos h4]; rfl, fun h4 => ⟨fe, allFit_two hp1 hp2, by rw [if_neg (by simp [h4])]⟩⟩
  · cases h
noncomputable def FF_csince : FSpec := pureN [.any, .any, .sl NodeT, .sl NodeT] csinceS
theorem FFok_csince : SpecOK Try.prog 69 (fspecS FF_csince) := csince_ok
noncomputable def fs_csince : FS := (69, FF_csince) :: fs_cprev
theorem fsOK_csince : FSOK Try.prog fs_csince := fsOK_cons FFok_csince fsOK_cprev
end Go.Proofs.Ytmdjpohmbkodeaa.Sx

