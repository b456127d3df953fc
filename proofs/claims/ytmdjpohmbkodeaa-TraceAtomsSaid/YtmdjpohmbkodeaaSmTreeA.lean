/- Names and parts of formulas: what the small functions come to. -/
import Derived.Test.YtmdjpohmbkodeaaSxV
import Derived.Test.YtmdjpohmbkodeaaSx13
namespace Go.Proofs.Ytmdjpohmbkodeaa.Sx
open Go.RowKit
set_option maxRecDepth 100000
set_option maxHeartbeats 4000000
set_option linter.unusedVariables false
set_option linter.unusedSimpArgs false
@[reducible] def TermT : Ty := .prod .str (.int .i64)
@[reducible] def NodeT : Ty := .prod (.int .i64) (.prod (.int .i64) (.prod (.int .i64) (.prod (.int .i64) (.prod (.list TermT) (.int .i64)))))
def bI (c : UInt8) : Int := (c.toNat : Int)
def letB (c : Int) : Bool := (decide (65 ≤ c) && decide (c ≤ 90)) || (decide (97 ≤ c) && decide (c ≤ 122))
def digB (c : Int) : Bool := decide (48 ≤ c) && decide (c ≤ 57)
def namB (c : Int) : Bool := letB c || digB c || decide (c = 95)
def resWords : List (List UInt8) := [[115, 112, 101, 99], [99, 101, 108, 108, 115], [115, 116, 101, 112, 115],
  [115, 105, 103, 110, 97, 108], [112, 114, 111, 112], [116, 114, 117, 101], [102, 97, 108, 115, 101],
  [97, 110, 100], [111, 114], [110, 111, 116], [112, 114, 101, 118], [111, 110, 99, 101],
  [104, 105, 115, 116], [115, 105, 110, 99, 101], [105, 110, 102]]
def lngG : List UInt8 → Int
  | [] => 0
  | c :: l => if namB (bI c) then 1 + lngG l else 0
def lngF (s : List UInt8) : Int := lngG s
def nameF (s : List UInt8) : Int := if s = [] then 0 else if letB (byteAt s 0) then lngF s else 0
def isNameF (s : List UInt8) : Bool := decide (lenI s ≤ 24) && decide (nameF s = lenI s) && decide (lenI s ≠ 0)
noncomputable def isLetterS : List AV → OV := fun args => match args with | [.int .u8 c] => some ([], .bool (letB c)) | _ => none
theorem isLetter_eq (c : Int) : acall tab [] [] fns 100 20 99 [.int .u8 c] [] (fun o mm _ _ => resN (.any) mm o = .ret (.bool (letB c))) =
  (AOut.ret (AV.bool (selB (selB (leB 65 c) (leB c 90) false) true (selB (leB 97 c) (leB c 122) false))) = AOut.ret (AV.bool (letB c))) := by kernel_rfl
theorem isLetter_ok : SpecOK Try.prog 99 (fspecS (pureN [] isLetterS)) := pureN_ok (mkCall fsOK_nil specsOK_nil fnsOK) (.any) (fun vs w => Try.call99 vs w) fun args ps v h hp hw => by
  unfold isLetterS at h
  split at h
  · cases h
    rename_i c
    rw [isLetter_eq]
    refine ⟨?_⟩
    simp only [allP_cons, allP_nil, and_true] at hp
    simp only [wfAL, wfA, wfS, wfM, wfB, and_true, true_and, wfT_int, wfT_str, wfT_bool, wfT_prod] at hw
    first | (simp only [simpsL, implies_true, forall_const, if_true, if_false, reduceCtorEq]; done) | (simp only [simpsL, implies_true, forall_const, if_true, if_false, reduceCtorEq]; rfl)
  · cases h
noncomputable def FF_isLetter : FSpec := pureN [] isLetterS
theorem FFok_isLetter : SpecOK Try.prog 99 (fspecS FF_isLetter) := isLetter_ok
noncomputable def fs_isLetter : FS := (99, FF_isLetter) :: []
theorem fsOK_isLetter : FSOK Try.prog fs_isLetter := fsOK_cons FFok_isLetter fsOK_nil
noncomputable def isDigitS : List AV → OV := fun args => match args with | [.int .u8 c] => some ([], .bool (digB c)) | _ => none
theorem isDigit_eq (c : Int) : acall tab fs_isLetter [] fns 100 20 102 [.int .u8 c] [] (fun o mm _ _ => resN (.any) mm o = .ret (.bool (digB c))) =
  (AOut.ret (AV.bool (selB (leB 48 c) (leB c 57) false)) = AOut.ret (AV.bool (digB c))) := by kernel_rfl
theorem isDigit_ok : SpecOK Try.prog 102 (fspecS (pureN [] isDigitS)) := pureN_ok (mkCall fsOK_isLetter specsOK_nil fnsOK) (.any) (fun vs w => Try.call102 vs w) fun args ps v h hp hw => by
  unfold isDigitS at h
  split at h
  · cases h
    rename_i c
    rw [isDigit_eq]
    refine ⟨?_⟩
    simp only [allP_cons, allP_nil, and_true] at hp
    simp only [wfAL, wfA, wfS, wfM, wfB, and_true, true_and, wfT_int, wfT_str, wfT_bool, wfT_prod] at hw
    first | (simp only [simpsL, implies_true, forall_const, if_true, if_false, reduceCtorEq]; done) | (simp only [simpsL, implies_true, forall_const, if_true, if_false, reduceCtorEq]; rfl)
  · cases h
noncomputable def FF_isDigit : FSpec := pureN [] isDigitS
theorem FFok_isDigit : SpecOK Try.prog 102 (fspecS FF_isDigit) := isDigit_ok
noncomputable def fs_isDigit : FS := (102, FF_isDigit) :: fs_isLetter
theorem fsOK_isDigit : FSOK Try.prog fs_isDigit := fsOK_cons FFok_isDigit fsOK_isLetter
noncomputable def nameCS : List AV → OV := fun args => match args with | [.int .u8 c] => some ([], .bool (namB c)) | _ => none
theorem nameC_eq (c : Int) : acall tab fs_isDigit [] fns 100 20 101 [.int .u8 c] [] (fun o mm _ _ => resN (.any) mm o = .ret (.bool (namB c))) =
  (AOut.ret (AV.bool (selB (selB (letB c) true (digB c)) true (eqB c 95))) = AOut.ret (AV.bool (namB c))) := by kernel_rfl
theorem nameC_ok : SpecOK Try.prog 101 (fspecS (pureN [] nameCS)) := pureN_ok (mkCall fsOK_isDigit specsOK_nil fnsOK) (.any) (fun vs w => Try.call101 vs w) fun args ps v h hp hw => by
  unfold nameCS at h
  split at h
  · cases h
    rename_i c
    rw [nameC_eq]
    refine ⟨?_⟩
    simp only [allP_cons, allP_nil, and_true] at hp
    simp only [wfAL, wfA, wfS, wfM, wfB, and_true, true_and, wfT_int, wfT_str, wfT_bool, wfT_prod] at hw
    first | (simp only [simpsL, implies_true, forall_const, if_true, if_false, reduceCtorEq]; done) | (simp only [simpsL, implies_true, forall_const, if_true, if_false, reduceCtorEq]; rfl)
  · cases h
noncomputable def FF_nameC : FSpec := pureN [] nameCS
theorem FFok_nameC : SpecOK Try.prog 101 (fspecS FF_nameC) := nameC_ok
noncomputable def fs_nameC : FS := (101, FF_nameC) :: fs_isDigit
theorem fsOK_nameC : FSOK Try.prog fs_nameC := fsOK_cons FFok_nameC fsOK_isDigit
abbrev X_long := List UInt8 × Int
def sh_long : X_long → St := fun x => match x with | (s, n) => ⟨setL (rep .bad 20) [(0, .str s), (5, .int .i64 n), (1, .fn (.func 101) [] [])], [], [], []⟩
def sx_long : AExit → X_long → St := fun _ => sh_long
def nx_long (σ : St) : X_long := (gS σ 0, gI σ 5)
def Pre_long : X_long → Prop := fun x => match x with | (s, n) => n = 0
def E0_long : X_long → X_long → Prop := fun x y => match x, y with | (s0, n0), (s, n) => (s = s0) ∧ (n = lngF s)
def R_long : X_long → X_long → Prop := fun x y => match x, y with | (s0, n0), (s, n) => (s = s0) ∧ (False)
def D_long : X_long → LEnds X_long := fun x => ⟨[(0, E0_long x)], R_long x⟩
noncomputable def S_long : Summ := summN sh_long sx_long nx_long Pre_long D_long
def Inv_long : X_long → X_long → Prop := fun x y => match x, y with | (s0, n0), (s, n) => (s = s0) ∧ ((0 ≤ n ∧ n ≤ lenI s) ∧ n + lngG (s.drop n.toNat) = lngF s)
def M_long : X_long → X_long → Nat := fun x y => match x, y with | (s0, n0), (s, n) => (lenI s - n).toNat
theorem body_long (Inv : X_long → Prop) (meas : X_long → Nat) (nn : Nat) (EE0 RR : X_long → Prop) (s : List UInt8) (n : Int) : awp tab fs_nameC (acall tab fs_nameC [] fns 100 20) [] 100 (loopAt Try.f100 2) (bodyN sh_long sx_long nx_long Inv meas nn ⟨[(0, EE0)], RR⟩) (sh_long (s, n)) =
  (need (impB (ltB n (lenI s)) (inI n (lenI s))) (ifB (selB (ltB n (lenI s)) (namB (byteAt s n)) false) (eqS s s (need (AV.fn (Fn.func 101) (@List.nil AV) (@List.nil
    AV) = AV.fn (Fn.func 101) (@List.nil AV) (@List.nil AV)) (eqI (addW IntKind.i64 n 1) (addW IntKind.i64 n 1) (Inv (s, addW IntKind.i64 n 1) ∧ meas (s, addW IntKind.i64
    n 1) < nn)))) (eqS s s (need (AV.fn (Fn.func 101) (@List.nil AV) (@List.nil AV) = AV.fn (Fn.func 101) (@List.nil AV) (@List.nil AV)) (eqI n n (EE0 (s, n))))))) := by kernel_rfl
theorem body_long_ok : ∀ x y, Pre_long x → Inv_long x y → wfS (sh_long y) → Hd (awp tab fs_nameC (acall tab fs_nameC [] fns 100 20) [] 100 (loopAt Try.f100 2) (bodyN sh_long sx_long nx_long (Inv_long x) (M_long x) (M_long x y) (D_long x)) (sh_long y)) := by
  rintro ⟨s0, n0⟩ ⟨s, n⟩ hp hI hw
  obtain ⟨rfl, hI⟩ := hI
  have hw_s := wfL_str hw 0 rfl
  have hw_n := wfL_int hw 5 rfl
  have hp : n0 = 0 := hp
  unfold D_long
  rw [body_long]
  refine ⟨?_⟩
  have hInv : ∀ (n : Int), ((0 ≤ n ∧ n ≤ lenI s) ∧ n + lngG (s.drop n.toNat) = lngF s) → Inv_long (s, n0) (s, n) := fun _ h => ⟨rfl, h⟩
  generalize hIe : Inv_long (s, n0) = Inv at hInv ⊢
  have hMe : ∀ (n : Int), M_long (s, n0) (s, n) = (lenI s - n).toNat := fun _ => rfl
  generalize M_long (s, n0) = Me at hMe ⊢
  have hE0 : ∀ (n : Int), (n = lngF s) → E0_long (s, n0) (s, n) := fun _ h => ⟨rfl, h⟩
  generalize E0_long (s, n0) = EE0 at hE0 ⊢
  have hR : ∀ (n : Int), (False) → R_long (s, n0) (s, n) := fun _ h => ⟨rfl, h⟩
  generalize R_long (s, n0) = RR at hR ⊢
  obtain ⟨hi, hI⟩ := hI
  subst hp
  have hlen : lenI s ≤ 140737488355328 := by unfold LIM at hw_s; unfold lenI; omega
  by_cases hlt : n < lenI s
  · have hin : inI n (lenI s) := ⟨hi.1, hlt⟩
    have en : addW .i64 n 1 = n + 1 := addW64 (by omega) (by omega)
    rw [drop_byte hi.1 hlt] at hI
    simp only [lngG] at hI
    have hbI : bI (s.getD n.toNat 0) = byteAt s n := rfl
    rw [hbI] at hI
    cases hb : namB (byteAt s n)
    · rw [hb] at hI
      simp only [ltB_t.2 hlt, hb, hin, en, hMe, simpsL, implies_true, forall_const, if_true, if_false, reduceCtorEq] at hI ⊢
      (repeat' (first | with_reducible rfl | assumption | omega | (apply Eq.symm; assumption) | (simp only [hMe]; omega) | (exact lenI_nn _) | trivial | (refine hInv _ ?_) | (refine hInv _ _ ?_) | (refine hInv _ _ _ ?_) | (refine hInv _ _ _ _ ?_) | (refine hE0 _ ?_) | (refine hE0 _ _ ?_) | (refine hE0 _ _ _ ?_) | (refine hE0 _ _ _ _ ?_) | (refine hR _ ?_) | (refine hR _ _ ?_) | (refine hR _ _ _ ?_) | (refine hR _ _ _ _ ?_) | refine ⟨?_, ?_⟩ | intro _))
    · rw [hb] at hI
      simp only [ltB_t.2 hlt, hb, hin, en, hMe, simpsL, implies_true, forall_const, if_true, if_false, reduceCtorEq] at hI ⊢
      (repeat' (first | with_reducible rfl | assumption | omega | (apply Eq.symm; assumption) | (simp only [hMe]; omega) | (exact lenI_nn _) | trivial | (refine hInv _ ?_) | (refine hInv _ _ ?_) | (refine hInv _ _ _ ?_) | (refine hInv _ _ _ _ ?_) | (refine hE0 _ ?_) | (refine hE0 _ _ ?_) | (refine hE0 _ _ _ ?_) | (refine hE0 _ _ _ _ ?_) | (refine hR _ ?_) | (refine hR _ _ ?_) | (refine hR _ _ _ ?_) | (refine hR _ _ _ _ ?_) | refine ⟨?_, ?_⟩ | intro _))
  · rw [List.drop_eq_nil_of_le (by unfold lenI at hi hlt; omega)] at hI
    simp only [lngG] at hI
    simp only [ltB_f.2 (Int.not_lt.1 hlt), simpsL, implies_true, forall_const, if_true, if_false, reduceCtorEq]
    (repeat' (first | with_reducible rfl | assumption | omega | (apply Eq.symm; assumption) | (simp only [hMe]; omega) | (exact lenI_nn _) | trivial | (refine hInv _ ?_) | (refine hInv _ _ ?_) | (refine hInv _ _ _ ?_) | (refine hInv _ _ _ _ ?_) | (refine hE0 _ ?_) | (refine hE0 _ _ ?_) | (refine hE0 _ _ _ ?_) | (refine hE0 _ _ _ _ ?_) | (refine hR _ ?_) | (refine hR _ _ ?_) | (refine hR _ _ _ ?_) | (refine hR _ _ _ _ ?_) | refine ⟨?_, ?_⟩ | intro _))
theorem summ_long : SummOK Try.prog (loopAt Try.f100 2) S_long :=
  summN_ok (L := []) (fuel := 100) tabOK fsOK_nameC (mkCall fsOK_nameC specsOK_nil fnsOK) (fun C => mkDraw fsOK_nameC (mkCall fsOK_nameC specsOK_nil fnsOK) C) loopsOK_nil Inv_long M_long
    (fun x hp hw => by
      obtain ⟨s, n⟩ := x
      have hp : n = 0 := hp
      have hw_s := wfL_str hw 0 rfl
      have hw_n := wfL_int hw 5 rfl
      subst hp
      exact ⟨rfl, ⟨by omega, lenI_nn _⟩, by simp [lngF]⟩)
    (body_long_ok)
noncomputable def fns_long : Fns := (100, Try.f100, [(2, S_long)]) :: fns
theorem fn_long : FnOK Try.prog 100 Try.f100 [(2, S_long)] := fnOK_loops Try.func100 (fun vs w => Try.call100 vs w) (by kernel_rfl) fun k S h => by
  simp only [List.mem_cons, Prod.mk.injEq, List.not_mem_nil, or_false] at h
  obtain ⟨rfl, rfl⟩ := h
  exact summ_long
theorem fns_longOK : FnsOK Try.prog fns_long := fnsOK_cons fn_long fnsOK
noncomputable def longS : List AV → OV := fun args => match args with | [.str s, .fn (.func 101) [] []] => some ([], .int .i64 (lngF s)) | _ => none
theorem long_eq (s : List UInt8) : acall tab fs_nameC [] fns_long 100 20 100 [.str s, .fn (.func 101) [] []] [] (fun o mm _ _ => resN (.any) mm o = .ret (.int .i64 (lngF s))) =
  (eqS s s (need (AV.fn (Fn.func 101) (@List.nil AV) (@List.nil AV) = AV.fn (Fn.func 101) (@List.nil AV) (@List.nil AV)) (eqI 0 0 ((0 : Int) = 0 ∧ ((∀ (y : X_long),
    y.1 = s ∧ y.2 = lngF y.1 → AOut.ret (AV.int IntKind.i64 y.2) = AOut.ret (AV.int IntKind.i64 (lngF s))) ∧ True) ∧ ∀ (y : X_long), y.1 = s ∧ False → AOut.ret AV.bad
    = AOut.ret (AV.int IntKind.i64 (lngF s)))))) := by kernel_rfl
theorem long_ok : SpecOK Try.prog 100 (fspecS (pureN [] longS)) := pureN_ok (mkCall fsOK_nameC specsOK_nil fns_longOK) (.any) (fun vs w => Try.call100 vs w) fun args ps v h hp hw => by
  unfold longS at h
  split at h
  · cases h
    rename_i s
    rw [long_eq]
    refine ⟨?_⟩
    simp only [allP_cons, allP_nil, and_true] at hp
    simp only [wfAL, wfA, wfS, wfM, wfB, and_true, true_and, wfT_int, wfT_str, wfT_bool, wfT_prod] at hw
    simp only [simpsL, implies_true, forall_const, if_true, if_false, reduceCtorEq]
    
    (repeat' (first | with_reducible rfl | assumption | omega | trivial | (rintro y ⟨hk, hx⟩; simp_all; done) | refine ⟨?_, ?_⟩ | intro _))
  · cases h
noncomputable def FF_long : FSpec := pureN [] longS
theorem FFok_long : SpecOK Try.prog 100 (fspecS FF_long) := long_ok
noncomputable def fs_long : FS := (100, FF_long) :: fs_nameC
theorem fsOK_long : FSOK Try.prog fs_long := fsOK_cons FFok_long fsOK_nameC
def idxStr_p (s : List UInt8) (x : den .str) : Bool := seqB s x
def idxStr_f (s : List UInt8) (n : List (den .str)) : Int := idxG (idxStr_p s) n 0
theorem idxStr_any (s : List UInt8) (n : List (den .str)) : leB 0 (idxStr_f s n) = n.any (idxStr_p s) := idxG_any (by omega)
abbrev X_idxStr := List (den .str) × Int × Int × Int × List UInt8
def sh_idxStr : X_idxStr → St := fun x => match x with | (n, len, i, r, s) => ⟨setL (rep .bad 19) [(0, .view [] .str n), (7, .int .i64 len), (8, .int .i64 i), (1, .str s)], [], [], []⟩
def shr_idxStr : X_idxStr → St := fun x => match x with | (n, len, i, r, s) => ⟨setL (rep .bad 19) [(0, .view [] .str n), (7, .int .i64 len), (8, .int .i64 i), (4, .int .i64 r), (1, .str s)], [], [], []⟩
def sx_idxStr : AExit → X_idxStr → St := fun e => match e with | .ret => shr_idxStr | _ => sh_idxStr
def nx_idxStr (σ : St) : X_idxStr := (gV .str σ 0, gI σ 7, gI σ 8, gI σ 4, gS σ 1)
def Pre_idxStr : X_idxStr → Prop := fun x => match x with | (n, len, i, r, s) => i = 0 ∧ len = lenI n
def E0_idxStr : X_idxStr → X_idxStr → Prop := fun x y => match x, y with | (n0, len0, i0, r0, s0), (n, len, i, r, s) => (n = n0 ∧ len = len0 ∧ s = s0) ∧ (idxStr_f s n = -1)
def R_idxStr : X_idxStr → X_idxStr → Prop := fun x y => match x, y with | (n0, len0, i0, r0, s0), (n, len, i, r, s) => (n = n0 ∧ len = len0 ∧ s = s0) ∧ (r = idxStr_f s n)
def D_idxStr : X_idxStr → LEnds X_idxStr := fun x => ⟨[(0, E0_idxStr x)], R_idxStr x⟩
noncomputable def S_idxStr : Summ := summN sh_idxStr sx_idxStr nx_idxStr Pre_idxStr D_idxStr
def Inv_idxStr : X_idxStr → X_idxStr → Prop := fun x y => match x, y with | (n0, len0, i0, r0, s0), (n, len, i, r, s) => (n = n0 ∧ len = len0 ∧ s = s0) ∧ ((0 ≤ i ∧ i ≤ len) ∧ idxG (idxStr_p s) (n.drop i.toNat) i = idxStr_f s n)
def M_idxStr : X_idxStr → X_idxStr → Nat := fun x y => match x, y with | (n0, len0, i0, r0, s0), (n, len, i, r, s) => (len - i).toNat
theorem body_idxStr (Inv : X_idxStr → Prop) (meas : X_idxStr → Nat) (nn : Nat) (EE0 RR : X_idxStr → Prop) (n : List (den .str)) (len : Int) (i : Int) (r : Int) (s : List UInt8) : awp tab fs_long (acall tab fs_long [] fns 100 20) [] 100 (loopAt Try.f44 2) (bodyN sh_idxStr sx_idxStr nx_idxStr Inv meas nn ⟨[(0, EE0)], RR⟩) (sh_idxStr (n, len, i, r, s)) =
  (ifB (ltB i len) (need (inI i (lenI n)) (ifB (seqB s (nth Ty.str n i)) (eqD n n (eqS s s (eqI i i (eqI len len (eqI i i (RR (n, len, i, i, s))))))) (eqD n n (eqS
    s s (eqI len len (eqI (addW IntKind.i64 i 1) (addW IntKind.i64 i 1) (Inv (n, len, addW IntKind.i64 i 1, 0, s) ∧ meas (n, len, addW IntKind.i64 i 1, 0, s) < nn)))))))
    (eqD n n (eqS s s (eqI len len (eqI i i (EE0 (n, len, i, 0, s))))))) := by kernel_rfl
theorem body_idxStr_ok : ∀ x y, Pre_idxStr x → Inv_idxStr x y → wfS (sh_idxStr y) → Hd (awp tab fs_long (acall tab fs_long [] fns 100 20) [] 100 (loopAt Try.f44 2) (bodyN sh_idxStr sx_idxStr nx_idxStr (Inv_idxStr x) (M_idxStr x) (M_idxStr x y) (D_idxStr x)) (sh_idxStr y)) := by
  rintro ⟨n0, len0, i0, r0, s0⟩ ⟨n, len, i, r, s⟩ hp hI hw
  obtain ⟨⟨rfl, rfl, rfl⟩, hI⟩ := hI
  have hw_n := wfL_view hw 0 rfl
  have hw_len := wfL_int hw 7 rfl
  have hw_i := wfL_int hw 8 rfl
  have hw_s := wfL_str hw 1 rfl
  have hp : i0 = 0 ∧ len = lenI n := hp
  unfold D_idxStr
  rw [body_idxStr]
  refine ⟨?_⟩
  have hInv : ∀ (i : Int) (r : Int), ((0 ≤ i ∧ i ≤ len) ∧ idxG (idxStr_p s) (n.drop i.toNat) i = idxStr_f s n) → Inv_idxStr (n, len, i0, r0, s) (n, len, i, r, s) := fun _ _ h => ⟨⟨rfl, rfl, rfl⟩, h⟩
  generalize hIe : Inv_idxStr (n, len, i0, r0, s) = Inv at hInv ⊢
  have hMe : ∀ (i : Int) (r : Int), M_idxStr (n, len, i0, r0, s) (n, len, i, r, s) = (len - i).toNat := fun _ _ => rfl
  generalize M_idxStr (n, len, i0, r0, s) = Me at hMe ⊢
  have hE0 : ∀ (i : Int) (r : Int), (idxStr_f s n = -1) → E0_idxStr (n, len, i0, r0, s) (n, len, i, r, s) := fun _ _ h => ⟨⟨rfl, rfl, rfl⟩, h⟩
  generalize E0_idxStr (n, len, i0, r0, s) = EE0 at hE0 ⊢
  have hR : ∀ (i : Int) (r : Int), (r = idxStr_f s n) → R_idxStr (n, len, i0, r0, s) (n, len, i, r, s) := fun _ _ h => ⟨⟨rfl, rfl, rfl⟩, h⟩
  generalize R_idxStr (n, len, i0, r0, s) = RR at hR ⊢
  obtain ⟨hi, hI⟩ := hI
  obtain ⟨p1, rfl⟩ := hp
  by_cases hlt : i < lenI n
  · rw [drop_nth (t := .str) hi.1 hlt] at hI
    simp only [idxG] at hI
    have hlen := wfT_len hw_n
    have hwx := wfT_nth hw_n hi.1 hlt
    have ei : addW .i64 i 1 = i + 1 := addW64 (by omega) (by omega)
    have hin : inI i (lenI n) := ⟨hi.1, hlt⟩
    cases hb : idxStr_p s (nth .str n i)
    · rw [hb] at hI
      have hb2 := hb
      unfold idxStr_p at hb2
      simp only [ltB_t.2 hlt, hb2, hin, ei, hMe, simpsL, implies_true, forall_const, if_true, if_false, reduceCtorEq] at hI ⊢
      (repeat' (first | with_reducible rfl | assumption | omega | (apply Eq.symm; assumption) | (simp only [hMe]; omega) | (exact lenI_nn _) | trivial | (refine hInv _ ?_) | (refine hInv _ _ ?_) | (refine hInv _ _ _ ?_) | (refine hInv _ _ _ _ ?_) | (refine hE0 _ ?_) | (refine hE0 _ _ ?_) | (refine hE0 _ _ _ ?_) | (refine hE0 _ _ _ _ ?_) | (refine hR _ ?_) | (refine hR _ _ ?_) | (refine hR _ _ _ ?_) | (refine hR _ _ _ _ ?_) | refine ⟨?_, ?_⟩ | intro _))
    · rw [hb] at hI
      have hb2 := hb
      unfold idxStr_p at hb2
      simp only [ltB_t.2 hlt, hb2, hin, ei, hMe, simpsL, implies_true, forall_const, if_true, if_false, reduceCtorEq] at hI ⊢
      (repeat' (first | with_reducible rfl | assumption | omega | (apply Eq.symm; assumption) | (simp only [hMe]; omega) | (exact lenI_nn _) | trivial | (refine hInv _ ?_) | (refine hInv _ _ ?_) | (refine hInv _ _ _ ?_) | (refine hInv _ _ _ _ ?_) | (refine hE0 _ ?_) | (refine hE0 _ _ ?_) | (refine hE0 _ _ _ ?_) | (refine hE0 _ _ _ _ ?_) | (refine hR _ ?_) | (refine hR _ _ ?_) | (refine hR _ _ _ ?_) | (refine hR _ _ _ _ ?_) | refine ⟨?_, ?_⟩ | intro _))
  · rw [drop_all (by omega)] at hI
    simp only [idxG] at hI
    rw [ltB_f.2 (Int.not_lt.1 hlt)]
    simp only [simpsL, implies_true, forall_const, if_true, if_false, reduceCtorEq]
    (repeat' (first | with_reducible rfl | assumption | omega | (apply Eq.symm; assumption) | (simp only [hMe]; omega) | (exact lenI_nn _) | trivial | (refine hInv _ ?_) | (refine hInv _ _ ?_) | (refine hInv _ _ _ ?_) | (refine hInv _ _ _ _ ?_) | (refine hE0 _ ?_) | (refine hE0 _ _ ?_) | (refine hE0 _ _ _ ?_) | (refine hE0 _ _ _ _ ?_) | (refine hR _ ?_) | (refine hR _ _ ?_) | (refine hR _ _ _ ?_) | (refine hR _ _ _ _ ?_) | refine ⟨?_, ?_⟩ | intro _))
theorem summ_idxStr : SummOK Try.prog (loopAt Try.f44 2) S_idxStr :=
  summN_ok (L := []) (fuel := 100) tabOK fsOK_long (mkCall fsOK_long specsOK_nil fnsOK) (fun C => mkDraw fsOK_long (mkCall fsOK_long specsOK_nil fnsOK) C) loopsOK_nil Inv_idxStr M_idxStr
    (fun x hp hw => by
      obtain ⟨n, len, i, r, s⟩ := x
      have hp : i = 0 ∧ len = lenI n := hp
      have hw_n := wfL_view hw 0 rfl
      have hw_len := wfL_int hw 7 rfl
      have hw_i := wfL_int hw 8 rfl
      have hw_s := wfL_str hw 1 rfl
      obtain ⟨rfl, rfl⟩ := hp
      exact ⟨⟨rfl, rfl, rfl⟩, ⟨by omega, lenI_nn _⟩, rfl⟩)
    (body_idxStr_ok)
noncomputable def fns_idxStr : Fns := (44, Try.f44, [(2, S_idxStr)]) :: fns
theorem fn_idxStr : FnOK Try.prog 44 Try.f44 [(2, S_idxStr)] := fnOK_loops Try.func44 (fun vs w => Try.call44 vs w) (by kernel_rfl) fun k S h => by
  simp only [List.mem_cons, Prod.mk.injEq, List.not_mem_nil, or_false] at h
  obtain ⟨rfl, rfl⟩ := h
  exact summ_idxStr
theorem fns_idxStrOK : FnsOK Try.prog fns_idxStr := fnsOK_cons fn_idxStr fnsOK
noncomputable def idxStrS : List AV → OV := fun args => match args with | [.view [] .str n, .str s] => some ([], .int .i64 (idxStr_f s n)) | _ => none
theorem idxStr_eq (s : List UInt8) (n : List (den .str)) : acall tab fs_long [] fns_idxStr 100 20 44 [.view [] .str n, .str s] [] (fun o mm _ _ => resN (.any) mm o = .ret (.int .i64 (idxStr_f s n))) =
  (eqD n n (eqS s s (eqI (lenI n) (lenI n) (eqI 0 0 (((0 : Int) = 0 ∧ lenI n = lenI n) ∧ ((∀ (y : X_idxStr), (y.1 = n ∧ y.2.1 = lenI n ∧ y.2.2.2.2 = s) ∧ idxStr_f y.2.2.2.2
    y.1 = -1 → AOut.ret (AV.int IntKind.i64 (-1)) = AOut.ret (AV.int IntKind.i64 (idxStr_f s n))) ∧ True) ∧ ∀ (y : X_idxStr), (y.1 = n ∧ y.2.1 = lenI n ∧ y.2.2.2.2 =
    s) ∧ y.2.2.2.1 = idxStr_f y.2.2.2.2 y.1 → AOut.ret (AV.int IntKind.i64 y.2.2.2.1) = AOut.ret (AV.int IntKind.i64 (idxStr_f s n))))))) := by kernel_rfl
theorem idxStr_ok : SpecOK Try.prog 44 (fspecS (pureN [.sl .str] idxStrS)) := pureN_ok (mkCall fsOK_long specsOK_nil fns_idxStrOK) (.any) (fun vs w => Try.call44 vs w) fun args ps v h hp hw => by
  unfold idxStrS at h
  split at h
  · cases h
    rename_i s n
    rw [idxStr_eq]
    refine ⟨?_⟩
    simp only [allP_cons, allP_nil, and_true] at hp
    simp only [wfAL, wfA, wfS, wfM, wfB, and_true, true_and, wfT_int, wfT_str, wfT_bool, wfT_prod] at hw
    simp only [simpsL, implies_true, forall_const, if_true, if_false, reduceCtorEq]
    (repeat' (first | with_reducible rfl | assumption | omega | trivial | (rintro y ⟨hk, hx⟩; simp_all; done) | refine ⟨?_, ?_⟩ | intro _))
  · cases h
noncomputable def FF_idxStr : FSpec := pureN [.sl .str] idxStrS
theorem FFok_idxStr : SpecOK Try.prog 44 (fspecS FF_idxStr) := idxStr_ok
noncomputable def fs_idxStr : FS := (44, FF_idxStr) :: fs_long
theorem fsOK_idxStr : FSOK Try.prog fs_idxStr := fsOK_cons FFok_idxStr fsOK_long
noncomputable def nameS : List AV → OV := fun args => match args with | [.str s] => some ([], .int .i64 (nameF s)) | _ => none
theorem name_eq (s : List UInt8) : acall tab fs_idxStr [] fns 100 20 89 [.str s] [] (fun o mm _ _ => resN (.any) mm o = .ret (.int .i64 (nameF s))) =
  (need (impB (notB (seqB s (@List.nil UInt8))) (inI 0 (lenI s))) (ifB (selB (seqB s (@List.nil UInt8)) true (notB (letB (byteAt s 0)))) (AOut.ret (AV.int IntKind.i64
    0) = AOut.ret (AV.int IntKind.i64 (nameF s))) (AOut.ret (AV.int IntKind.i64 (lngF s)) = AOut.ret (AV.int IntKind.i64 (nameF s))))) := by kernel_rfl
theorem name_ok : SpecOK Try.prog 89 (fspecS (pureN [] nameS)) := pureN_ok (mkCall fsOK_idxStr specsOK_nil fnsOK) (.any) (fun vs w => Try.call89 vs w) fun args ps v h hp hw => by
  unfold nameS at h
  split at h
  · cases h
    rename_i s
    rw [name_eq]
    refine ⟨?_⟩
    simp only [allP_cons, allP_nil, and_true] at hp
    simp only [wfAL, wfA, wfS, wfM, wfB, and_true, true_and, wfT_int, wfT_str, wfT_bool, wfT_prod] at hw
    simp only [simpsL, implies_true, forall_const, if_true, if_false, reduceCtorEq]
    have h0 := lenI_nn s
    have h1 : s ≠ [] → 0 < lenI s := fun h => by cases s with | nil => exact absurd rfl h | cons a l => simp only [lenI, List.length_cons]; omega
    refine ⟨fun h => ⟨by omega, h1 h⟩, fun h => ?_, fun h => ?_⟩
    · unfold nameF; rcases h with h | h
      · rw [if_pos h]
      · split
        · rfl
        · rw [if_neg (by simp [h])]
    · unfold nameF; rw [if_neg h.1, if_pos h.2]
  · cases h
noncomputable def FF_name : FSpec := pureN [] nameS
theorem FFok_name : SpecOK Try.prog 89 (fspecS FF_name) := name_ok
noncomputable def fs_name : FS := (89, FF_name) :: fs_idxStr
theorem fsOK_name : FSOK Try.prog fs_name := fsOK_cons FFok_name fsOK_idxStr
def isWordF (s : List UInt8) : Bool := isNameF s && !(resWords.contains s)
noncomputable def isNameS : List AV → OV := fun args => match args with | [.str s] => some ([], .bool (isNameF s)) | _ => none
theorem isName_eq (s : List UInt8) : acall tab fs_name [] fns 100 20 74 [.str s] [] (fun o mm _ _ => resN (.any) mm o = .ret (.bool (isNameF s))) =
  (AOut.ret (AV.bool (selB (selB (notB (seqB s (@List.nil UInt8))) (leB (lenI s) 24) false) (eqB (nameF s) (lenI s)) false)) = AOut.ret (AV.bool (isNameF s))) := by kernel_rfl
theorem isName_ok : SpecOK Try.prog 74 (fspecS (pureN [] isNameS)) := pureN_ok (mkCall fsOK_name specsOK_nil fnsOK) (.any) (fun vs w => Try.call74 vs w) fun args ps v h hp hw => by
  unfold isNameS at h
  split at h
  · cases h
    rename_i s
    rw [isName_eq]
    refine ⟨?_⟩
    simp only [allP_cons, allP_nil, and_true] at hp
    simp only [wfAL, wfA, wfS, wfM, wfB, and_true, true_and, wfT_int, wfT_str, wfT_bool, wfT_prod] at hw
    simp only [simpsL, implies_true, forall_const, if_true, if_false, reduceCtorEq]
    have h0 : (s = []) = (lenI s = 0) := by cases s with | nil => simp [lenI] | cons a l => simp [lenI]; omega
    simp only [isNameF, h0]
    grind
  · cases h
noncomputable def FF_isName : FSpec := pureN [] isNameS
theorem FFok_isName : SpecOK Try.prog 74 (fspecS FF_isName) := isName_ok
noncomputable def fs_isName : FS := (74, FF_isName) :: fs_name
theorem fsOK_isName : FSOK Try.prog fs_isName := fsOK_cons FFok_isName fsOK_name
noncomputable def isWordS : List AV → OV := fun args => match args with | [.str s] => some ([], .bool (isWordF s)) | _ => none
theorem isWord_eq (s : List UInt8) : acall tab fs_isName [] fns 100 20 58 [.str s] [] (fun o mm _ _ => resN (.any) mm o = .ret (.bool (isWordF s))) =
  (ifB (isNameF s) (AOut.ret (AV.bool (notB (leB 0 (idxStr_f s ((115 :: 112 :: 101 :: 99 :: @List.nil UInt8) :: (99 :: 101 :: 108 :: 108 :: 115 :: @List.nil UInt8)
    :: (115 :: 116 :: 101 :: 112 :: 115 :: @List.nil UInt8) :: (115 :: 105 :: 103 :: 110 :: 97 :: 108 :: @List.nil UInt8) :: (112 :: 114 :: 111 :: 112 :: @List.nil UInt8)
    :: (116 :: 114 :: 117 :: 101 :: @List.nil UInt8) :: (102 :: 97 :: 108 :: 115 :: 101 :: @List.nil UInt8) :: (97 :: 110 :: 100 :: @List.nil UInt8) :: (111 :: 114 ::
    @List.nil UInt8) :: (110 :: 111 :: 116 :: @List.nil UInt8) :: (112 :: 114 :: 101 :: 118 :: @List.nil UInt8) :: (111 :: 110 :: 99 :: 101 :: @List.nil UInt8) :: (104
    :: 105 :: 115 :: 116 :: @List.nil UInt8) :: (115 :: 105 :: 110 :: 99 :: 101 :: @List.nil UInt8) :: (105 :: 110 :: 102 :: @List.nil UInt8) :: @List.nil (den Ty.str))))))
    = AOut.ret (AV.bool (isWordF s))) (need (eqT false false) (AOut.ret (AV.bool false) = AOut.ret (AV.bool (isWordF s))))) := by kernel_rfl
theorem isWord_ok : SpecOK Try.prog 58 (fspecS (pureN [] isWordS)) := pureN_ok (mkCall fsOK_isName specsOK_nil fnsOK) (.any) (fun vs w => Try.call58 vs w) fun args ps v h hp hw => by
  unfold isWordS at h
  split at h
  · cases h
    rename_i s
    rw [isWord_eq]
    refine ⟨?_⟩
    simp only [allP_cons, allP_nil, and_true] at hp
    simp only [wfAL, wfA, wfS, wfM, wfB, and_true, true_and, wfT_int, wfT_str, wfT_bool, wfT_prod] at hw
    simp only [simpsL, implies_true, forall_const, if_true, if_false, reduceCtorEq]
    have e := idxStr_any s resWords
    change (isNameF s = true → (!decide (0 ≤ idxStr_f s resWords)) = isWordF s) ∧ (isNameF s = false → false = isWordF s)
    simp only [leB] at e
    rw [e]
    unfold isWordF
    have e2 : ∀ l : List (List UInt8), l.any (idxStr_p s) = l.contains s := by
      intro l
      induction l with
      | nil => rfl
      | cons a l ih => simp only [List.any_cons, List.contains_cons, ih]; rfl
    rw [e2]
    refine ⟨fun h => by simp [h], fun h => by simp [h]⟩
  · cases h
noncomputable def FF_isWord : FSpec := pureN [] isWordS
theorem FFok_isWord : SpecOK Try.prog 58 (fspecS FF_isWord) := isWord_ok
noncomputable def fs_isWord : FS := (58, FF_isWord) :: fs_isName
theorem fsOK_isWord : FSOK Try.prog fs_isWord := fsOK_cons FFok_isWord fsOK_isName
def leastF (op : Int) : Int := if op = 3 ∨ op = 7 ∨ op = 8 ∨ op = 9 then 1 else if op = 4 ∨ op = 5 ∨ op = 6 ∨ op = 10 then 2 else 0
def mostF (op : Int) : Int := if op = 3 ∨ op = 7 ∨ op = 8 ∨ op = 9 then 1 else if op = 4 ∨ op = 5 then 300 else if op = 6 ∨ op = 10 then 2 else 0
def timedF (op : Int) : Bool := decide (8 ≤ op ∧ op ≤ 10)
def opOK (op : Int) : Bool := decide (0 ≤ op ∧ op ≤ 10)
noncomputable def ofOpS : List AV → OV := fun args => match args with | [.int .i64 op] => some ([], .tup [.agg [.int .i64 (leastF op), .int .i64 (mostF op), .bool (timedF op)], .bool (opOK op)]) | _ => none
theorem ofOp_eq (op : Int) : acall tab fs_isWord [] fns 100 20 72 [.int .i64 op] [] (fun o mm _ _ => resN (.any) mm o = .ret (.tup [.agg [.int .i64 (leastF op), .int .i64 (mostF op), .bool (timedF op)], .bool (opOK op)])) =
  (ifB (selB (ltB op 0) true (leB 11 op)) (AOut.ret (AV.tup (AV.agg (AV.int IntKind.i64 0 :: AV.int IntKind.i64 0 :: AV.bool false :: @List.nil AV) :: AV.bool false
    :: @List.nil AV)) = AOut.ret (AV.tup (AV.agg (AV.int IntKind.i64 (leastF op) :: AV.int IntKind.i64 (mostF op) :: AV.bool (timedF op) :: @List.nil AV) :: AV.bool
    (opOK op) :: @List.nil AV))) (need (inI op 11) (need (inI op 11) (AOut.ret (AV.tup (AV.agg (AV.int IntKind.i64 (nth ((Ty.int IntKind.i64).prod ((Ty.int IntKind.i64).prod
    Ty.bool)) ((0, 0, false) :: (0, 0, false) :: (0, 0, false) :: (1, 1, false) :: (2, 300, false) :: (2, 300, false) :: (2, 2, false) :: (1, 1, false) :: (1, 1, true)
    :: (1, 1, true) :: (2, 2, true) :: @List.nil (den ((Ty.int IntKind.i64).prod ((Ty.int IntKind.i64).prod Ty.bool)))) op).fst :: AV.int IntKind.i64 (nth ((Ty.int IntKind.i64).prod
    ((Ty.int IntKind.i64).prod Ty.bool)) ((0, 0, false) :: (0, 0, false) :: (0, 0, false) :: (1, 1, false) :: (2, 300, false) :: (2, 300, false) :: (2, 2, false) ::
    (1, 1, false) :: (1, 1, true) :: (1, 1, true) :: (2, 2, true) :: @List.nil (den ((Ty.int IntKind.i64).prod ((Ty.int IntKind.i64).prod Ty.bool)))) op).snd.fst ::
    AV.bool (nth ((Ty.int IntKind.i64).prod ((Ty.int IntKind.i64).prod Ty.bool)) ((0, 0, false) :: (0, 0, false) :: (0, 0, false) :: (1, 1, false) :: (2, 300, false)
    :: (2, 300, false) :: (2, 2, false) :: (1, 1, false) :: (1, 1, true) :: (1, 1, true) :: (2, 2, true) :: @List.nil (den ((Ty.int IntKind.i64).prod ((Ty.int IntKind.i64).prod
    Ty.bool)))) op).snd.snd :: @List.nil AV) :: AV.bool true :: @List.nil AV)) = AOut.ret (AV.tup (AV.agg (AV.int IntKind.i64 (leastF op) :: AV.int IntKind.i64 (mostF
    op) :: AV.bool (timedF op) :: @List.nil AV) :: AV.bool (opOK op) :: @List.nil AV)))))) := by kernel_rfl
theorem ofOp_ok : SpecOK Try.prog 72 (fspecS (pureN [] ofOpS)) := pureN_ok (mkCall fsOK_isWord specsOK_nil fnsOK) (.any) (fun vs w => Try.call72 vs w) fun args ps v h hp hw => by
  unfold ofOpS at h
  split at h
  · cases h
    rename_i op
    rw [ofOp_eq]
    refine ⟨?_⟩
    simp only [allP_cons, allP_nil, and_true] at hp
    simp only [wfAL, wfA, wfS, wfM, wfB, and_true, true_and, wfT_int, wfT_str, wfT_bool, wfT_prod] at hw
    simp only [simpsL, implies_true, forall_const, if_true, if_false, reduceCtorEq]
    refine ⟨fun h => ?_, fun h => ⟨h, h, ?_⟩⟩
    · have e1 : leastF op = 0 := by unfold leastF; rw [if_neg (by omega), if_neg (by omega)]
      have e2 : mostF op = 0 := by unfold mostF; rw [if_neg (by omega), if_neg (by omega), if_neg (by omega)]
      have e3 : timedF op = false := decide_eq_false (by omega)
      have e4 : opOK op = false := decide_eq_false (by omega)
      rw [e1, e2, e3, e4]
    · have : op = 0 ∨ op = 1 ∨ op = 2 ∨ op = 3 ∨ op = 4 ∨ op = 5 ∨ op = 6 ∨ op = 7 ∨ op = 8 ∨ op = 9 ∨ op = 10 := by omega
      rcases this with rfl | rfl | rfl | rfl | rfl | rfl | rfl | rfl | rfl | rfl | rfl <;> rfl
  · cases h
noncomputable def FF_ofOp : FSpec := pureN [] ofOpS
theorem FFok_ofOp : SpecOK Try.prog 72 (fspecS FF_ofOp) := ofOp_ok
noncomputable def fs_ofOp : FS := (72, FF_ofOp) :: fs_isWord
theorem fsOK_ofOp : FSOK Try.prog fs_ofOp := fsOK_cons FFok_ofOp fsOK_isWord
def aloneF (op nn fr to : Int) (ts : List (den TermT)) (num : Int) : Bool := opOK op && decide (leastF op ≤ nn) && (timedF op || (decide (fr = 0) && decide (to = 0))) && (decide (op = 2) || (decide (lenI ts = 0) && decide (num = 0))) && (decide (nn ≤ mostF op) || decide (op = 5) || decide (op = 4))
def badTF (nm : List UInt8) (tm : Int) : Bool := !(isWordF nm) || decide (tm = -9223372036854775808)
noncomputable def aloneS : List AV → OV := fun args => match args with | [.agg [.int .i64 op, .int .i64 nn, .int .i64 fr, .int .i64 to, .view [] (.prod .str (.int .i64)) ts, .int .i64 num]] => some ([], .bool (aloneF op nn fr to ts num)) | _ => none
theorem alone_eq (op nn fr to : Int) (ts : List (den TermT)) (num : Int) : acall tab fs_ofOp [] fns 100 20 55 [.agg [.int .i64 op, .int .i64 nn, .int .i64 fr, .int .i64 to, .view [] TermT ts, .int .i64 num]] [] (fun o mm _ _ => resN (.any) mm o = .ret (.bool (aloneF op nn fr to ts num))) =
  (ifB (selB (selB (selB (notB (opOK op)) true (ltB nn (leastF op))) true (selB (notB (timedF op)) (selB (notB (eqB fr 0)) true (notB (eqB to 0))) false)) true (selB
    (notB (eqB op 2)) (selB (ltB 0 (lenI ts)) true (notB (eqB num 0))) false)) (AOut.ret (AV.bool false) = AOut.ret (AV.bool (aloneF op nn fr to ts num))) (AOut.ret
    (AV.bool (selB (selB (leB nn (mostF op)) true (eqB op 5)) true (eqB op 4))) = AOut.ret (AV.bool (aloneF op nn fr to ts num)))) := by kernel_rfl
theorem alone_ok : SpecOK Try.prog 55 (fspecS (pureN [] aloneS)) := pureN_ok (mkCall fsOK_ofOp specsOK_nil fnsOK) (.any) (fun vs w => Try.call55 vs w) fun args ps v h hp hw => by
  unfold aloneS at h
  split at h
  · cases h
    rename_i op nn fr to ts num
    rw [alone_eq]
    refine ⟨?_⟩
    simp only [allP_cons, allP_nil, and_true] at hp
    simp only [wfAL, wfA, wfS, wfM, wfB, and_true, true_and, wfT_int, wfT_str, wfT_bool, wfT_prod] at hw
    simp only [simpsL, implies_true, forall_const, if_true, if_false, reduceCtorEq]
    have h0 := lenI_nn ts
    simp only [aloneF]
    grind
  · cases h
noncomputable def FF_alone : FSpec := pureN [] aloneS
theorem FFok_alone : SpecOK Try.prog 55 (fspecS FF_alone) := alone_ok
noncomputable def fs_alone : FS := (55, FF_alone) :: fs_ofOp
theorem fsOK_alone : FSOK Try.prog fs_alone := fsOK_cons FFok_alone fsOK_ofOp
noncomputable def badTS : List AV → OV := fun args => match args with | [.agg [.str nm, .int .i64 tm]] => some ([], .bool (badTF nm tm)) | _ => none
theorem badT_eq (nm : List UInt8) (tm : Int) : acall tab fs_alone [] fns 100 20 57 [.agg [.str nm, .int .i64 tm]] [] (fun o mm _ _ => resN (.any) mm o = .ret (.bool (badTF nm tm))) =
  (AOut.ret (AV.bool (selB (notB (isWordF nm)) true (eqB tm (-9223372036854775808)))) = AOut.ret (AV.bool (badTF nm tm))) := by kernel_rfl
theorem badT_ok : SpecOK Try.prog 57 (fspecS (pureN [] badTS)) := pureN_ok (mkCall fsOK_alone specsOK_nil fnsOK) (.any) (fun vs w => Try.call57 vs w) fun args ps v h hp hw => by
  unfold badTS at h
  split at h
  · cases h
    rename_i nm tm
    rw [badT_eq]
    refine ⟨?_⟩
    simp only [allP_cons, allP_nil, and_true] at hp
    simp only [wfAL, wfA, wfS, wfM, wfB, and_true, true_and, wfT_int, wfT_str, wfT_bool, wfT_prod] at hw
    simp only [simpsL, implies_true, forall_const, if_true, if_false, reduceCtorEq]
    rfl
  · cases h
noncomputable def FF_badT : FSpec := pureN [] badTS
theorem FFok_badT : SpecOK Try.prog 57 (fspecS FF_badT) := badT_ok
noncomputable def fs_badT : FS := (57, FF_badT) :: fs_alone
theorem fsOK_badT : FSOK Try.prog fs_badT := fsOK_cons FFok_badT fsOK_alone
def idxTerm_p  (x : den TermT) : Bool := badTF x.1 x.2
def idxTerm_f  (n : List (den TermT)) : Int := idxG (idxTerm_p ) n 0
theorem idxTerm_any  (n : List (den TermT)) : leB 0 (idxTerm_f  n) = n.any (idxTerm_p ) := idxG_any (by omega)
abbrev X_idxTerm := List (den TermT) × Int × Int × Int
def sh_idxTerm : X_idxTerm → St := fun x => match x with | (n, len, i, r) => ⟨setL (rep .bad 19) [(0, .view [] TermT n), (7, .int .i64 len), (8, .int .i64 i), (1, .fn (.func 57) [] [])], [], [], []⟩
def shr_idxTerm : X_idxTerm → St := fun x => match x with | (n, len, i, r) => ⟨setL (rep .bad 19) [(0, .view [] TermT n), (7, .int .i64 len), (8, .int .i64 i), (4, .int .i64 r), (1, .fn (.func 57) [] [])], [], [], []⟩
def sx_idxTerm : AExit → X_idxTerm → St := fun e => match e with | .ret => shr_idxTerm | _ => sh_idxTerm
def nx_idxTerm (σ : St) : X_idxTerm := (gV TermT σ 0, gI σ 7, gI σ 8, gI σ 4)
def Pre_idxTerm : X_idxTerm → Prop := fun x => match x with | (n, len, i, r) => i = 0 ∧ len = lenI n
def E0_idxTerm : X_idxTerm → X_idxTerm → Prop := fun x y => match x, y with | (n0, len0, i0, r0), (n, len, i, r) => (n = n0 ∧ len = len0) ∧ (idxTerm_f  n = -1)
def R_idxTerm : X_idxTerm → X_idxTerm → Prop := fun x y => match x, y with | (n0, len0, i0, r0), (n, len, i, r) => (n = n0 ∧ len = len0) ∧ (r = idxTerm_f  n)
def D_idxTerm : X_idxTerm → LEnds X_idxTerm := fun x => ⟨[(0, E0_idxTerm x)], R_idxTerm x⟩
noncomputable def S_idxTerm : Summ := summN sh_idxTerm sx_idxTerm nx_idxTerm Pre_idxTerm D_idxTerm
def Inv_idxTerm : X_idxTerm → X_idxTerm → Prop := fun x y => match x, y with | (n0, len0, i0, r0), (n, len, i, r) => (n = n0 ∧ len = len0) ∧ ((0 ≤ i ∧ i ≤ len) ∧ idxG (idxTerm_p ) (n.drop i.toNat) i = idxTerm_f  n)
def M_idxTerm : X_idxTerm → X_idxTerm → Nat := fun x y => match x, y with | (n0, len0, i0, r0), (n, len, i, r) => (len - i).toNat
theorem body_idxTerm (Inv : X_idxTerm → Prop) (meas : X_idxTerm → Nat) (nn : Nat) (EE0 RR : X_idxTerm → Prop) (n : List (den TermT)) (len : Int) (i : Int) (r : Int) : awp tab fs_badT (acall tab fs_badT [] fns 100 20) [] 100 (loopAt Try.f73 2) (bodyN sh_idxTerm sx_idxTerm nx_idxTerm Inv meas nn ⟨[(0, EE0)], RR⟩) (sh_idxTerm (n, len, i, r)) =
  (ifB (ltB i len) (need (inI i (lenI n)) (ifB (badTF (nth TermT n i).fst (nth TermT n i).snd) (eqD n n (need (AV.fn (Fn.func 57) (@List.nil AV) (@List.nil AV) = AV.fn
    (Fn.func 57) (@List.nil AV) (@List.nil AV)) (eqI i i (eqI len len (eqI i i (RR (n, len, i, i))))))) (eqD n n (need (AV.fn (Fn.func 57) (@List.nil AV) (@List.nil
    AV) = AV.fn (Fn.func 57) (@List.nil AV) (@List.nil AV)) (eqI len len (eqI (addW IntKind.i64 i 1) (addW IntKind.i64 i 1) (Inv (n, len, addW IntKind.i64 i 1, 0) ∧
    meas (n, len, addW IntKind.i64 i 1, 0) < nn))))))) (eqD n n (need (AV.fn (Fn.func 57) (@List.nil AV) (@List.nil AV) = AV.fn (Fn.func 57) (@List.nil AV) (@List.nil
    AV)) (eqI len len (eqI i i (EE0 (n, len, i, 0))))))) := by kernel_rfl
theorem body_idxTerm_ok : ∀ x y, Pre_idxTerm x → Inv_idxTerm x y → wfS (sh_idxTerm y) → Hd (awp tab fs_badT (acall tab fs_badT [] fns 100 20) [] 100 (loopAt Try.f73 2) (bodyN sh_idxTerm sx_idxTerm nx_idxTerm (Inv_idxTerm x) (M_idxTerm x) (M_idxTerm x y) (D_idxTerm x)) (sh_idxTerm y)) := by
  rintro ⟨n0, len0, i0, r0⟩ ⟨n, len, i, r⟩ hp hI hw
  obtain ⟨⟨rfl, rfl⟩, hI⟩ := hI
  have hw_n := wfL_view hw 0 rfl
  have hw_len := wfL_int hw 7 rfl
  have hw_i := wfL_int hw 8 rfl
  have hp : i0 = 0 ∧ len = lenI n := hp
  unfold D_idxTerm
  rw [body_idxTerm]
  refine ⟨?_⟩
  have hInv : ∀ (i : Int) (r : Int), ((0 ≤ i ∧ i ≤ len) ∧ idxG (idxTerm_p ) (n.drop i.toNat) i = idxTerm_f  n) → Inv_idxTerm (n, len, i0, r0) (n, len, i, r) := fun _ _ h => ⟨⟨rfl, rfl⟩, h⟩
  generalize hIe : Inv_idxTerm (n, len, i0, r0) = Inv at hInv ⊢
  have hMe : ∀ (i : Int) (r : Int), M_idxTerm (n, len, i0, r0) (n, len, i, r) = (len - i).toNat := fun _ _ => rfl
  generalize M_idxTerm (n, len, i0, r0) = Me at hMe ⊢
  have hE0 : ∀ (i : Int) (r : Int), (idxTerm_f  n = -1) → E0_idxTerm (n, len, i0, r0) (n, len, i, r) := fun _ _ h => ⟨⟨rfl, rfl⟩, h⟩
  generalize E0_idxTerm (n, len, i0, r0) = EE0 at hE0 ⊢
  have hR : ∀ (i : Int) (r : Int), (r = idxTerm_f  n) → R_idxTerm (n, len, i0, r0) (n, len, i, r) := fun _ _ h => ⟨⟨rfl, rfl⟩, h⟩
  generalize R_idxTerm (n, len, i0, r0) = RR at hR ⊢
  obtain ⟨hi, hI⟩ := hI
  obtain ⟨p1, rfl⟩ := hp
  by_cases hlt : i < lenI n
  · rw [drop_nth (t := TermT) hi.1 hlt] at hI
    simp only [idxG] at hI
    have hlen := wfT_len hw_n
    have hwx := wfT_nth hw_n hi.1 hlt
    have ei : addW .i64 i 1 = i + 1 := addW64 (by omega) (by omega)
    have hin : inI i (lenI n) := ⟨hi.1, hlt⟩
    cases hb : idxTerm_p  (nth TermT n i)
    · rw [hb] at hI
      have hb2 := hb
      unfold idxTerm_p at hb2
      simp only [ltB_t.2 hlt, hb2, hin, ei, hMe, simpsL, implies_true, forall_const, if_true, if_false, reduceCtorEq] at hI ⊢
      (repeat' (first | with_reducible rfl | assumption | omega | (apply Eq.symm; assumption) | (simp only [hMe]; omega) | (exact lenI_nn _) | trivial | (refine hInv _ ?_) | (refine hInv _ _ ?_) | (refine hInv _ _ _ ?_) | (refine hInv _ _ _ _ ?_) | (refine hE0 _ ?_) | (refine hE0 _ _ ?_) | (refine hE0 _ _ _ ?_) | (refine hE0 _ _ _ _ ?_) | (refine hR _ ?_) | (refine hR _ _ ?_) | (refine hR _ _ _ ?_) | (refine hR _ _ _ _ ?_) | refine ⟨?_, ?_⟩ | intro _))
    · rw [hb] at hI
      have hb2 := hb
      unfold idxTerm_p at hb2
      simp only [ltB_t.2 hlt, hb2, hin, ei, hMe, simpsL, implies_true, forall_const, if_true, if_false, reduceCtorEq] at hI ⊢
      (repeat' (first | with_reducible rfl | assumption | omega | (apply Eq.symm; assumption) | (simp only [hMe]; omega) | (exact lenI_nn _) | trivial | (refine hInv _ ?_) | (refine hInv _ _ ?_) | (refine hInv _ _ _ ?_) | (refine hInv _ _ _ _ ?_) | (refine hE0 _ ?_) | (refine hE0 _ _ ?_) | (refine hE0 _ _ _ ?_) | (refine hE0 _ _ _ _ ?_) | (refine hR _ ?_) | (refine hR _ _ ?_) | (refine hR _ _ _ ?_) | (refine hR _ _ _ _ ?_) | refine ⟨?_, ?_⟩ | intro _))
  · rw [drop_all (by omega)] at hI
    simp only [idxG] at hI
    rw [ltB_f.2 (Int.not_lt.1 hlt)]
    simp only [simpsL, implies_true, forall_const, if_true, if_false, reduceCtorEq]
    (repeat' (first | with_reducible rfl | assumption | omega | (apply Eq.symm; assumption) | (simp only [hMe]; omega) | (exact lenI_nn _) | trivial | (refine hInv _ ?_) | (refine hInv _ _ ?_) | (refine hInv _ _ _ ?_) | (refine hInv _ _ _ _ ?_) | (refine hE0 _ ?_) | (refine hE0 _ _ ?_) | (refine hE0 _ _ _ ?_) | (refine hE0 _ _ _ _ ?_) | (refine hR _ ?_) | (refine hR _ _ ?_) | (refine hR _ _ _ ?_) | (refine hR _ _ _ _ ?_) | refine ⟨?_, ?_⟩ | intro _))
theorem summ_idxTerm : SummOK Try.prog (loopAt Try.f73 2) S_idxTerm :=
  summN_ok (L := []) (fuel := 100) tabOK fsOK_badT (mkCall fsOK_badT specsOK_nil fnsOK) (fun C => mkDraw fsOK_badT (mkCall fsOK_badT specsOK_nil fnsOK) C) loopsOK_nil Inv_idxTerm M_idxTerm
    (fun x hp hw => by
      obtain ⟨n, len, i, r⟩ := x
      have hp : i = 0 ∧ len = lenI n := hp
      have hw_n := wfL_view hw 0 rfl
      have hw_len := wfL_int hw 7 rfl
      have hw_i := wfL_int hw 8 rfl
      obtain ⟨rfl, rfl⟩ := hp
      exact ⟨⟨rfl, rfl⟩, ⟨by omega, lenI_nn _⟩, rfl⟩)
    (body_idxTerm_ok)
noncomputable def fns_idxTerm : Fns := (73, Try.f73, [(2, S_idxTerm)]) :: fns
theorem fn_idxTerm : FnOK Try.prog 73 Try.f73 [(2, S_idxTerm)] := fnOK_loops Try.func73 (fun vs w => Try.call73 vs w) (by kernel_rfl) fun k S h => by
  simp only [List.mem_cons, Prod.mk.injEq, List.not_mem_nil, or_false] at h
  obtain ⟨rfl, rfl⟩ := h
  exact summ_idxTerm
theorem fns_idxTermOK : FnsOK Try.prog fns_idxTerm := fnsOK_cons fn_idxTerm fnsOK
noncomputable def idxTermS : List AV → OV := fun args => match args with | [.view [] (.prod .str (.int .i64)) n, .fn (.func 57) [] []] => some ([], .int .i64 (idxTerm_f  n)) | _ => none
theorem idxTerm_eq  (n : List (den TermT)) : acall tab fs_badT [] fns_idxTerm 100 20 73 [.view [] TermT n, .fn (.func 57) [] []] [] (fun o mm _ _ => resN (.any) mm o = .ret (.int .i64 (idxTerm_f  n))) =
  (eqD n n (need (AV.fn (Fn.func 57) (@List.nil AV) (@List.nil AV) = AV.fn (Fn.func 57) (@List.nil AV) (@List.nil AV)) (eqI (lenI n) (lenI n) (eqI 0 0 (((0 : Int) =
    0 ∧ lenI n = lenI n) ∧ ((∀ (y : X_idxTerm), (y.1 = n ∧ y.2.1 = lenI n) ∧ idxTerm_f y.1 = -1 → AOut.ret (AV.int IntKind.i64 (-1)) = AOut.ret (AV.int IntKind.i64 (idxTerm_f
    n))) ∧ True) ∧ ∀ (y : X_idxTerm), (y.1 = n ∧ y.2.1 = lenI n) ∧ y.2.2.2 = idxTerm_f y.1 → AOut.ret (AV.int IntKind.i64 y.2.2.2) = AOut.ret (AV.int IntKind.i64 (idxTerm_f
    n))))))) := by kernel_rfl
theorem idxTerm_ok : SpecOK Try.prog 73 (fspecS (pureN [.sl TermT] idxTermS)) := pureN_ok (mkCall fsOK_badT specsOK_nil fns_idxTermOK) (.any) (fun vs w => Try.call73 vs w) fun args ps v h hp hw => by
  unfold idxTermS at h
  split at h
  · cases h
    rename_i n
    rw [idxTerm_eq]
    refine ⟨?_⟩
    simp only [allP_cons, allP_nil, and_true] at hp
    simp only [wfAL, wfA, wfS, wfM, wfB, and_true, true_and, wfT_int, wfT_str, wfT_bool, wfT_prod] at hw
    simp only [simpsL, implies_true, forall_const, if_true, if_false, reduceCtorEq]
    (repeat' (first | with_reducible rfl | assumption | omega | trivial | (rintro y ⟨hk, hx⟩; simp_all; done) | refine ⟨?_, ?_⟩ | intro _))
  · cases h
noncomputable def FF_idxTerm : FSpec := pureN [.sl TermT] idxTermS
theorem FFok_idxTerm : SpecOK Try.prog 73 (fspecS FF_idxTerm) := idxTerm_ok
noncomputable def fs_idxTerm : FS := (73, FF_idxTerm) :: fs_badT
theorem fsOK_idxTerm : FSOK Try.prog fs_idxTerm := fsOK_cons FFok_idxTerm fsOK_badT
def rightF (op nn fr to : Int) (ts : List (den TermT)) (num : Int) : Bool := aloneF op nn fr to ts num && decide (0 ≤ fr) && decide (fr ≤ 2147483647) && decide (to ≤ 2147483647) && (decide (0 ≤ to) || decide (to = -1)) && (decide (op ≠ 2) || (decide (1 ≤ lenI ts) && decide (lenI ts ≤ 16) && decide (num ≠ -9223372036854775808) && !(ts.any idxTerm_p)))
noncomputable def rightS : List AV → OV := fun args => match args with | [.agg [.int .i64 op, .int .i64 nn, .int .i64 fr, .int .i64 to, .view [] (.prod .str (.int .i64)) ts, .int .i64 num]] => some ([], .bool (rightF op nn fr to ts num)) | _ => none
theorem right_eq (op nn fr to : Int) (ts : List (den TermT)) (num : Int) : acall tab fs_idxTerm [] fns 100 20 33 [.agg [.int .i64 op, .int .i64 nn, .int .i64 fr, .int .i64 to, .view [] TermT ts, .int .i64 num]] [] (fun o mm _ _ => resN (.any) mm o = .ret (.bool (rightF op nn fr to ts num))) =
  (ifB (selB (selB (selB (selB (notB (aloneF op nn fr to ts num)) true (ltB fr 0)) true (ltB 2147483647 fr)) true (ltB 2147483647 to)) true (selB (ltB to 0) (notB (eqB
    to (-1))) false)) (AOut.ret (AV.bool false) = AOut.ret (AV.bool (rightF op nn fr to ts num))) (ifB (notB (eqB op 2)) (AOut.ret (AV.bool true) = AOut.ret (AV.bool
    (rightF op nn fr to ts num))) (ifB (selB (selB (leB 1 (lenI ts)) (leB (lenI ts) 16) false) (notB (eqB num (-9223372036854775808))) false) (AOut.ret (AV.bool (notB
    (leB 0 (idxTerm_f ts)))) = AOut.ret (AV.bool (rightF op nn fr to ts num))) (need (eqT false false) (AOut.ret (AV.bool false) = AOut.ret (AV.bool (rightF op nn fr
    to ts num))))))) := by kernel_rfl
theorem right_ok : SpecOK Try.prog 33 (fspecS (pureN [] rightS)) := pureN_ok (mkCall fsOK_idxTerm specsOK_nil fnsOK) (.any) (fun vs w => Try.call33 vs w) fun args ps v h hp hw => by
  unfold rightS at h
  split at h
  · cases h
    rename_i op nn fr to ts num
    rw [right_eq]
    refine ⟨?_⟩
    simp only [allP_cons, allP_nil, and_true] at hp
    simp only [wfAL, wfA, wfS, wfM, wfB, and_true, true_and, wfT_int, wfT_str, wfT_bool, wfT_prod] at hw
    simp only [simpsL, implies_true, forall_const, if_true, if_false, reduceCtorEq]
    have e := idxTerm_any ts
    simp only [leB] at e
    simp only [rightF, e]
    refine ⟨fun h => ?_, fun h => ⟨fun h2 => ?_, fun h2 => ⟨fun h3 => ?_, fun h3 => ?_⟩⟩⟩ <;> grind
  · cases h
noncomputable def FF_right : FSpec := pureN [] rightS
theorem FFok_right : SpecOK Try.prog 33 (fspecS FF_right) := right_ok
noncomputable def fs_right : FS := (33, FF_right) :: fs_idxTerm
theorem fsOK_right : FSOK Try.prog fs_right := fsOK_cons FFok_right fsOK_idxTerm
end Go.Proofs.Ytmdjpohmbkodeaa.Sx

