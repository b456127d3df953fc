/- Copies and joined ones. -/
import Derived.Test.YtkdemkkepepbdaaSmPeepB
namespace Go.Proofs.Ytkdemkkepepbdaa.Sx
open Go.RowKit
set_option maxRecDepth 100000
set_option maxHeartbeats 4000000
set_option linter.unusedVariables false
set_option linter.unusedSimpArgs false
noncomputable def cloneS : List AV → OV := fun args => match args with | [.view [] (.prod (.int .i64) (.prod (.int .i64) (.prod (.int .i64) (.int .i64)))) l] => some ([fitA (lenI l)], .view [] CodeT l) | _ => none
theorem clone_eq (l : List (den CodeT)) : acall tab fs_idleR [] fns 100 20 13 [.view [] CodeT l] [] (fun o mm _ _ => resN (.sl CodeT) mm o = .ret (.view [] CodeT l)) =
  (need (imp (lenI l = 0) (AOut.ret (AV.view [] CodeT (@List.nil (den CodeT))) = AOut.ret (AV.view [] CodeT l))) (need (fitA (0 + lenI l)) (AOut.ret (AV.view [] CodeT
    (appL (@List.nil (den CodeT)) l)) = AOut.ret (AV.view [] CodeT l)))) := by kernel_rfl
theorem clone_ok : SpecOK Try.prog 13 (fspecS (pureN [.sl CodeT] cloneS)) := pureN_ok (mkCall fsOK_idleR specsOK_nil fnsOK) (.sl CodeT) (fun vs w => Try.call13 vs w) fun args ps v h hp hw => by
  unfold cloneS at h
  split at h
  · cases h
    rename_i l
    rw [clone_eq]
    refine ⟨?_⟩
    simp only [allP_cons, allP_nil, and_true] at hp
    simp only [wfAL, wfA, wfS, wfM, wfB, and_true, true_and, wfT_int, wfT_str, wfT_bool, wfT_prod] at hw
    simp only [simpsL, implies_true, forall_const, if_true, if_false, reduceCtorEq, hp, List.nil_append, Int.zero_add, and_true]
    intro h
    cases l with
    | nil => rfl
    | cons a l => simp only [lenI, List.length_cons] at h; omega
  · cases h
noncomputable def FF_clone : FSpec := pureN [.sl CodeT] cloneS
theorem FFok_clone : SpecOK Try.prog 13 (fspecS FF_clone) := clone_ok
noncomputable def fs_clone : FS := (13, FF_clone) :: fs_idleR
theorem fsOK_clone : FSOK Try.prog fs_clone := fsOK_cons FFok_clone fsOK_idleR
theorem same_step {t : Ty} {a b : List (den t)} {i : Int} (h0 : 0 ≤ i) (hI : ∀ j, 0 ≤ j → j < i → nth t a j = nth t b j) : nth t a i = nth t b i → ∀ j, 0 ≤ j → j < i + 1 → nth t a j = nth t b j := fun h j j0 j1 => by
  by_cases e : j = i
  · rw [e]; exact h
  · exact hI j j0 (by omega)
theorem ext_nth {t : Ty} {a b : List (den t)} (hl : lenI a = lenI b) (h : ∀ j, 0 ≤ j → j < lenI a → nth t a j = nth t b j) : a = b := by
  unfold lenI at *
  refine List.ext_getElem (by omega) fun k h1 h2 => ?_
  have := h (k : Int) (by omega) (by omega)
  unfold nth at this
  simpa [List.getD_eq_getElem?_getD, List.getElem?_eq_getElem h1, List.getElem?_eq_getElem h2] using this
abbrev X_equal := List (den CodeT) × List (den CodeT) × Int × Int × Bool
def sh_equal : X_equal → St := fun x => match x with | (a, b, n, i, r) => ⟨setL (rep .bad 26) [(0, .view [] CodeT a), (1, .view [] CodeT b), (12, .int .i64 n), (13, .int .i64 i)], [], [], []⟩
def shr_equal : X_equal → St := fun x => match x with | (a, b, n, i, r) => ⟨setL (rep .bad 26) [(0, .view [] CodeT a), (1, .view [] CodeT b), (12, .int .i64 n), (13, .int .i64 i), (4, .bool r)], [], [], []⟩
def sx_equal : AExit → X_equal → St := fun e => match e with | .ret => shr_equal | _ => sh_equal
def nx_equal (σ : St) : X_equal := (gV CodeT σ 0, gV CodeT σ 1, gI σ 12, gI σ 13, gB σ 4)
def Pre_equal : X_equal → Prop := fun x => match x with | (a, b, n, i, r) => i = 0 ∧ n = lenI a ∧ lenI a = lenI b
def E0_equal : X_equal → X_equal → Prop := fun x y => match x, y with | (a0, b0, n0, i0, r0), (a, b, n, i, r) => (a = a0 ∧ b = b0 ∧ n = n0) ∧ (a = b)
def R_equal : X_equal → X_equal → Prop := fun x y => match x, y with | (a0, b0, n0, i0, r0), (a, b, n, i, r) => (a = a0 ∧ b = b0 ∧ n = n0) ∧ (r = false ∧ a ≠ b)
def D_equal : X_equal → LEnds X_equal := fun x => ⟨[(0, E0_equal x)], R_equal x⟩
noncomputable def S_equal : Summ := summN sh_equal sx_equal nx_equal Pre_equal D_equal
def Inv_equal : X_equal → X_equal → Prop := fun x y => match x, y with | (a0, b0, n0, i0, r0), (a, b, n, i, r) => (a = a0 ∧ b = b0 ∧ n = n0) ∧ ((0 ≤ i ∧ i ≤ n) ∧ ∀ j, 0 ≤ j → j < i → nth CodeT a j = nth CodeT b j)
def M_equal : X_equal → X_equal → Nat := fun x y => match x, y with | (a0, b0, n0, i0, r0), (a, b, n, i, r) => (n - i).toNat
theorem body_equal (Inv : X_equal → Prop) (meas : X_equal → Nat) (nn : Nat) (EE0 RR : X_equal → Prop) (a : List (den CodeT)) (b : List (den CodeT)) (n : Int) (i : Int) (r : Bool) : awp tab fs_clone (acall tab fs_clone [] fns 100 20) [] 100 (loopAt Try.f15 4) (bodyN sh_equal sx_equal nx_equal Inv meas nn ⟨[(0, EE0)], RR⟩) (sh_equal (a, b, n, i, r)) =
  (ifB (ltB i n) (need (inI i (lenI a)) (need (inI i (lenI b)) (ifB (notB (andB (eqB (nth CodeT a i).fst (nth CodeT b i).fst) (andB (eqB (nth CodeT a i).snd.fst (nth
    CodeT b i).snd.fst) (andB (eqB (nth CodeT a i).snd.snd.fst (nth CodeT b i).snd.snd.fst) (eqB (nth CodeT a i).snd.snd.snd (nth CodeT b i).snd.snd.snd))))) (eqDr a
    (eqDr b (eqLr false (eqIr n (eqIr i (RR (a, b, n, i, false))))))) (eqDr a (eqDr b (eqIr n (eqIr (addW IntKind.i64 i 1) (Inv (a, b, n, addW IntKind.i64 i 1, false)
    ∧ meas (a, b, n, addW IntKind.i64 i 1, false) < nn)))))))) (eqDr a (eqDr b (eqIr n (eqIr i (EE0 (a, b, n, i, false))))))) := by kernel_rfl
theorem body_equal_ok : ∀ x y, Pre_equal x → Inv_equal x y → wfS (sh_equal y) → Hd (awp tab fs_clone (acall tab fs_clone [] fns 100 20) [] 100 (loopAt Try.f15 4) (bodyN sh_equal sx_equal nx_equal (Inv_equal x) (M_equal x) (M_equal x y) (D_equal x)) (sh_equal y)) := by
  rintro ⟨a0, b0, n0, i0, r0⟩ ⟨a, b, n, i, r⟩ hp hI hw
  obtain ⟨⟨rfl, rfl, rfl⟩, hI⟩ := hI
  have hw_a := wfL_view hw 0 rfl
  have hw_b := wfL_view hw 1 rfl
  have hw_n := wfL_int hw 12 rfl
  have hw_i := wfL_int hw 13 rfl
  have hp : i0 = 0 ∧ n = lenI a ∧ lenI a = lenI b := hp
  unfold D_equal
  rw [body_equal]
  refine ⟨?_⟩
  have hInv : ∀ (i : Int) (r : Bool), ((0 ≤ i ∧ i ≤ n) ∧ ∀ j, 0 ≤ j → j < i → nth CodeT a j = nth CodeT b j) → Inv_equal (a, b, n, i0, r0) (a, b, n, i, r) := fun _ _ h => ⟨⟨rfl, rfl, rfl⟩, h⟩
  generalize hIe : Inv_equal (a, b, n, i0, r0) = Inv at hInv ⊢
  have hMe : ∀ (i : Int) (r : Bool), M_equal (a, b, n, i0, r0) (a, b, n, i, r) = (n - i).toNat := fun _ _ => rfl
  generalize M_equal (a, b, n, i0, r0) = Me at hMe ⊢
  have hE0 : ∀ (i : Int) (r : Bool), (a = b) → E0_equal (a, b, n, i0, r0) (a, b, n, i, r) := fun _ _ h => ⟨⟨rfl, rfl, rfl⟩, h⟩
  generalize E0_equal (a, b, n, i0, r0) = EE0 at hE0 ⊢
  have hR : ∀ (i : Int) (r : Bool), (r = false ∧ a ≠ b) → R_equal (a, b, n, i0, r0) (a, b, n, i, r) := fun _ _ h => ⟨⟨rfl, rfl, rfl⟩, h⟩
  generalize R_equal (a, b, n, i0, r0) = RR at hR ⊢
  obtain ⟨hi, hI⟩ := hI
  obtain ⟨p1, rfl, p3⟩ := hp
  have hlen := wfT_len hw_a
  by_cases hlt : i < lenI a
  · have ei : addW .i64 i 1 = i + 1 := addW64 (by omega) (by omega)
    have h1 : inI i (lenI a) := ⟨hi.1, hlt⟩
    have h2 : inI i (lenI b) := ⟨hi.1, by omega⟩
    rw [ltB_t.2 hlt]
    have hs := same_step (t := CodeT) hi.1 hI
    obtain ⟨x1, x2, x3, x4, hx⟩ : ∃ (x1 x2 x3 x4 : Int), nth CodeT a i = (x1, x2, x3, x4) := ⟨_, _, _, _, rfl⟩
    obtain ⟨y1, y2, y3, y4, hy⟩ : ∃ (y1 y2 y3 y4 : Int), nth CodeT b i = (y1, y2, y3, y4) := ⟨_, _, _, _, rfl⟩
    rw [hx, hy] at hs ⊢
    by_cases he : x1 = y1 ∧ x2 = y2 ∧ x3 = y3 ∧ x4 = y4
    · obtain ⟨rfl, rfl, rfl, rfl⟩ := he
      simp only [simpsL, implies_true, forall_const, if_true, if_false, reduceCtorEq, hMe, ei, h1, h2, not_true_eq_false, false_implies]
      exact ⟨h1, h2, hInv _ _ ⟨by omega, hs rfl⟩, by omega⟩
    · have hne : a ≠ b := fun h => he (by rw [h, hy] at hx; cases hx; exact ⟨rfl, rfl, rfl, rfl⟩)
      simp only [simpsL, implies_true, forall_const, if_true, if_false, reduceCtorEq, hMe, ei, h1, h2]
      exact ⟨h1, h2, fun _ => hR _ _ ⟨rfl, hne⟩, fun h => absurd h he⟩
  · rw [ltB_f.2 (Int.not_lt.1 hlt)]
    simp only [simpsL, implies_true, forall_const, if_true, if_false, reduceCtorEq]
    exact hE0 _ _ (ext_nth (t := CodeT) p3 fun j h0 h1 => hI j h0 (by omega))
theorem summ_equal : SummOK Try.prog (loopAt Try.f15 4) S_equal :=
  summN_ok (L := []) (fuel := 100) tabOK fsOK_clone (mkCall fsOK_clone specsOK_nil fnsOK) (fun C => mkDraw fsOK_clone (mkCall fsOK_clone specsOK_nil fnsOK) C) loopsOK_nil Inv_equal M_equal
    (fun x hp hw => by
      obtain ⟨a, b, n, i, r⟩ := x
      have hp : i = 0 ∧ n = lenI a ∧ lenI a = lenI b := hp
      have hw_a := wfL_view hw 0 rfl
      have hw_b := wfL_view hw 1 rfl
      have hw_n := wfL_int hw 12 rfl
      have hw_i := wfL_int hw 13 rfl
      obtain ⟨rfl, rfl, _⟩ := hp
      exact ⟨⟨rfl, rfl, rfl⟩, ⟨by omega, lenI_nn _⟩, fun j h0 h1 => by omega⟩)
    (body_equal_ok)
def sameC (a b : List (den CodeT)) : Bool := decide (a = b)
def joinC (l : List (List (den CodeT))) : List (den CodeT) := l.flatten
def sumC (l : List (List (den CodeT))) : Int := lenI l.flatten
noncomputable def fns_equal : Fns := (15, Try.f15, [(4, S_equal)]) :: fns
theorem fn_equal : FnOK Try.prog 15 Try.f15 [(4, S_equal)] := fnOK_loops Try.func15 (fun vs w => Try.call15 vs w) (by kernel_rfl) fun k S h => by
  simp only [List.mem_cons, Prod.mk.injEq, List.not_mem_nil, or_false] at h
  obtain ⟨rfl, rfl⟩ := h
  exact summ_equal
theorem fns_equalOK : FnsOK Try.prog fns_equal := fnsOK_cons fn_equal fnsOK
noncomputable def equalS : List AV → OV := fun args => match args with | [.view [] (.prod (.int .i64) (.prod (.int .i64) (.prod (.int .i64) (.int .i64)))) a, .view [] (.prod (.int .i64) (.prod (.int .i64) (.prod (.int .i64) (.int .i64)))) b] => some ([], .bool (sameC a b)) | _ => none
theorem equal_eq (a b : List (den CodeT)) : acall tab fs_clone [] fns_equal 100 20 15 [.view [] CodeT a, .view [] CodeT b] [] (fun o mm _ _ => resN (.any) mm o = .ret (.bool (sameC a b))) =
  (ifB (notB (eqB (lenI a) (lenI b))) (AOut.ret (AV.bool false) = AOut.ret (AV.bool (sameC a b))) (eqDr a (eqDr b (eqIr (lenI a) (eqIr 0 (((0 : Int) = 0 ∧ lenI a =
    lenI a ∧ lenI a = lenI b) ∧ ((∀ (y : X_equal), (y.1 = a ∧ y.2.1 = b ∧ y.2.2.1 = lenI a) ∧ y.1 = y.2.1 → AOut.ret (AV.bool true) = AOut.ret (AV.bool (sameC a b)))
    ∧ True) ∧ ∀ (y : X_equal), (y.1 = a ∧ y.2.1 = b ∧ y.2.2.1 = lenI a) ∧ y.2.2.2.2 = false ∧ (y.1 = y.2.1 → False) → AOut.ret (AV.bool y.2.2.2.2) = AOut.ret (AV.bool
    (sameC a b)))))))) := by kernel_rfl
theorem equal_ok : SpecOK Try.prog 15 (fspecS (pureN [.sl CodeT, .sl CodeT] equalS)) := pureN_ok (mkCall fsOK_clone specsOK_nil fns_equalOK) (.any) (fun vs w => Try.call15 vs w) fun args ps v h hp hw => by
  unfold equalS at h
  split at h
  · cases h
    rename_i a b
    rw [equal_eq]
    refine ⟨?_⟩
    simp only [allP_cons, allP_nil, and_true] at hp
    simp only [wfAL, wfA, wfS, wfM, wfB, and_true, true_and, wfT_int, wfT_str, wfT_bool, wfT_prod] at hw
    simp only [simpsL, implies_true, forall_const, if_true, if_false, reduceCtorEq]
    refine ⟨fun h => ?_, fun h => ⟨h, fun y hy => ?_, fun y hy => ?_⟩⟩
    · have : a ≠ b := fun e => h (by rw [e])
      unfold sameC; rw [decide_eq_false this]
    · obtain ⟨a', b', n', i', r'⟩ := y
      dsimp only at hy ⊢
      obtain ⟨⟨rfl, rfl, rfl⟩, hy⟩ := hy
      unfold sameC; rw [decide_eq_true hy]
    · obtain ⟨a', b', n', i', r'⟩ := y
      dsimp only at hy ⊢
      obtain ⟨⟨rfl, rfl, rfl⟩, rfl, hy⟩ := hy
      unfold sameC; rw [decide_eq_false hy]
  · cases h
noncomputable def FF_equal : FSpec := pureN [.sl CodeT, .sl CodeT] equalS
theorem FFok_equal : SpecOK Try.prog 15 (fspecS FF_equal) := equal_ok
noncomputable def fs_equal : FS := (15, FF_equal) :: fs_clone
theorem fsOK_equal : FSOK Try.prog fs_equal := fsOK_cons FFok_equal fsOK_clone
noncomputable def sameS : List AV → OV := fun args => match args with | [.view [] (.prod (.int .i64) (.prod (.int .i64) (.prod (.int .i64) (.int .i64)))) a, .view [] (.prod (.int .i64) (.prod (.int .i64) (.prod (.int .i64) (.int .i64)))) b] => some ([], .bool (sameC a b)) | _ => none
theorem same_eq (a b : List (den CodeT)) : acall tab fs_equal [] fns 100 20 8 [.view [] CodeT a, .view [] CodeT b] [] (fun o mm _ _ => resN (.any) mm o = .ret (.bool (sameC a b))) =
  (AOut.ret (AV.bool (sameC a b)) = AOut.ret (AV.bool (sameC a b))) := by kernel_rfl
theorem same_ok : SpecOK Try.prog 8 (fspecS (pureN [.sl CodeT, .sl CodeT] sameS)) := pureN_ok (mkCall fsOK_equal specsOK_nil fnsOK) (.any) (fun vs w => Try.call8 vs w) fun args ps v h hp hw => by
  unfold sameS at h
  split at h
  · cases h
    rename_i a b
    rw [same_eq]
    refine ⟨?_⟩
    simp only [allP_cons, allP_nil, and_true] at hp
    simp only [wfAL, wfA, wfS, wfM, wfB, and_true, true_and, wfT_int, wfT_str, wfT_bool, wfT_prod] at hw
    first | (simp only [simpsL, implies_true, forall_const, if_true, if_false, reduceCtorEq]; done) | (simp only [simpsL, implies_true, forall_const, if_true, if_false, reduceCtorEq]; rfl)
  · cases h
noncomputable def FF_same : FSpec := pureN [.sl CodeT, .sl CodeT] sameS
theorem FFok_same : SpecOK Try.prog 8 (fspecS FF_same) := same_ok
noncomputable def fs_same : FS := (8, FF_same) :: fs_equal
theorem fsOK_same : FSOK Try.prog fs_same := fsOK_cons FFok_same fsOK_equal
noncomputable def growS : List AV → List Blk → AK → Prop := fun args m K => match args, m with | [.nsl true, .int .i64 n], [] => need (leI 0 n) (need (fitA n) (ifB (ltB 0 n) (K (.ret (.own 0)) [.row 33 CodeT [] []] [0] [0]) (K (.ret (.nsl true)) [] [] []))) | _, _ => False
theorem grow_eq (K : AK) (n : Int) : acall tab fs_same [] fns 100 20 22 [.nsl true, .int .i64 n] [] K =
  (ifB (ltB n 0) False (ifB (ltB 0 (subW IntKind.i64 n 0)) (need (leI 0 0) (need (leI 0 0) (need (leI 0 0) (need (leI 1 (subW IntKind.i64 n 0)) (need (fitA (subW IntKind.i64
    n 0)) (need (leI 0 0) (need (leI 0 (lenI (repI (subW IntKind.i64 n 0) ((0 : Int), (0 : Int), (0 : Int), (0 : Int))))) (K (AOut.ret (AV.own 0)) (Blk.row 33 CodeT
    (subL (repI (subW IntKind.i64 n 0) ((0 : Int), (0 : Int), (0 : Int), (0 : Int))) 0 0) [] :: []) (0 :: []) (0 :: []))))))))) (K (AOut.ret (AV.nsl true)) ([]) [] []))) := by kernel_rfl
theorem grow_ok : SpecOK Try.prog 22 growS := specOK_of (mkCall fsOK_same specsOK_nil fnsOK) (fun vs w => Try.call22 vs w) fun args m K h hw hwm => by
  unfold growS at h
  split at h
  · rename_i n
    rw [grow_eq]
    refine ⟨?_⟩
    simp only [wfAL, wfA, wfS, wfM, wfB, and_true, true_and, wfT_int, wfT_str, wfT_bool, wfT_prod] at hw hwm
    obtain ⟨h1, h2, h⟩ := h
    unfold leI fitA at *
    have e : subW .i64 n 0 = n := by rw [subW64 (by omega) (by omega)]; omega
    rw [e, ltB_f.2 (by omega)]
    have hz : subL (repI n ((0 : Int), (0 : Int), (0 : Int), (0 : Int))) 0 0 = [] := by simp [subL]
    rw [hz]
    have hl := lenI_nn (repI n ((0 : Int), (0 : Int), (0 : Int), (0 : Int)))
    simp only [ifB_def, need_def, leI, reduceCtorEq, false_implies, true_implies, true_and] at h ⊢
    refine ⟨fun hn => ⟨by omega, by omega, by omega, ?_, h2, by omega, hl, h.1 hn⟩, fun hn => h.2 hn⟩
    have := ltB_t.1 hn
    omega
  · exact h.elim
noncomputable def SP_grow : List AV → List Blk → AK → Prop := (frameS growS)
theorem SPok_grow : SpecOK Try.prog 22 SP_grow := (frame_ok grow_ok)
noncomputable def specs_grow : Specs := (22, SP_grow) :: []
theorem specsOK_grow : SpecsOK Try.prog specs_grow := specsOK_cons SPok_grow specsOK_nil
theorem sumC_take (l : List (List (den CodeT))) : ∀ n, sumC (l.take n) ≤ sumC l := fun n => by
  have : sumC l = sumC (l.take n) + sumC (l.drop n) := by
    unfold sumC
    rw [← lenI_app, ← List.flatten_append, List.take_append_drop]
  have h := lenI_nn (l.drop n).flatten
  unfold sumC at *
  omega
abbrev X_concatA := List (den (.list CodeT)) × Int × Int × Int
def sh_concatA : X_concatA → St := fun x => match x with | (ls, size, n, i) => ⟨setL (rep .bad 36) [(9, .view [] (.list CodeT) ls), (3, .int .i64 size), (10, .int .i64 n), (11, .int .i64 i), (0, .view [] (.list CodeT) ls)], [], [], []⟩
def sx_concatA : AExit → X_concatA → St := fun _ => sh_concatA
def nx_concatA (σ : St) : X_concatA := (gV (.list CodeT) σ 9, gI σ 3, gI σ 10, gI σ 11)
def Pre_concatA : X_concatA → Prop := fun x => match x with | (ls, size, n, i) => i = 0 ∧ size = 0 ∧ n = lenI ls ∧ sumC ls ≤ 1000000
def E0_concatA : X_concatA → X_concatA → Prop := fun x y => match x, y with | (ls0, size0, n0, i0), (ls, size, n, i) => (ls = ls0 ∧ n = n0) ∧ (size = sumC ls)
def R_concatA : X_concatA → X_concatA → Prop := fun x y => match x, y with | (ls0, size0, n0, i0), (ls, size, n, i) => (ls = ls0 ∧ n = n0) ∧ (False)
def D_concatA : X_concatA → LEnds X_concatA := fun x => ⟨[(0, E0_concatA x)], R_concatA x⟩
noncomputable def S_concatA : Summ := summN sh_concatA sx_concatA nx_concatA Pre_concatA D_concatA
def Inv_concatA : X_concatA → X_concatA → Prop := fun x y => match x, y with | (ls0, size0, n0, i0), (ls, size, n, i) => (ls = ls0 ∧ n = n0) ∧ ((0 ≤ i ∧ i ≤ n) ∧ size = sumC (ls.take i.toNat))
def M_concatA : X_concatA → X_concatA → Nat := fun x y => match x, y with | (ls0, size0, n0, i0), (ls, size, n, i) => (n - i).toNat
theorem body_concatA (Inv : X_concatA → Prop) (meas : X_concatA → Nat) (nn : Nat) (EE0 RR : X_concatA → Prop) (ls : List (den (.list CodeT))) (size : Int) (n : Int) (i : Int) : awp tab fs_same (acall tab fs_same specs_grow fns 100 20) [] 100 (loopAt Try.f21 3) (bodyN sh_concatA sx_concatA nx_concatA Inv meas nn ⟨[(0, EE0)], RR⟩) (sh_concatA (ls, size, n, i)) =
  (ifB (ltB i n) (need (inI i (lenI ls)) (ifB (ltB (addW IntKind.i64 size (lenI (nth CodeT.list ls i))) 0) False (eqDr ls (eqIr (addW IntKind.i64 size (lenI (nth CodeT.list
    ls i))) (eqDr ls (eqIr n (eqIr (addW IntKind.i64 i 1) (Inv (ls, addW IntKind.i64 size (lenI (nth CodeT.list ls i)), n, addW IntKind.i64 i 1) ∧ meas (ls, addW IntKind.i64
    size (lenI (nth CodeT.list ls i)), n, addW IntKind.i64 i 1) < nn)))))))) (eqDr ls (eqIr size (eqDr ls (eqIr n (eqIr i (EE0 (ls, size, n, i)))))))) := by kernel_rfl
theorem body_concatA_ok : ∀ x y, Pre_concatA x → Inv_concatA x y → wfS (sh_concatA y) → Hd (awp tab fs_same (acall tab fs_same specs_grow fns 100 20) [] 100 (loopAt Try.f21 3) (bodyN sh_concatA sx_concatA nx_concatA (Inv_concatA x) (M_concatA x) (M_concatA x y) (D_concatA x)) (sh_concatA y)) := by
  rintro ⟨ls0, size0, n0, i0⟩ ⟨ls, size, n, i⟩ hp hI hw
  obtain ⟨⟨rfl, rfl⟩, hI⟩ := hI
  have hw_ls := wfL_view hw 9 rfl
  have hw_size := wfL_int hw 3 rfl
  have hw_n := wfL_int hw 10 rfl
  have hw_i := wfL_int hw 11 rfl
  have hp : i0 = 0 ∧ size0 = 0 ∧ n = lenI ls ∧ sumC ls ≤ 1000000 := hp
  unfold D_concatA
  rw [body_concatA]
  refine ⟨?_⟩
  have hInv : ∀ (size : Int) (i : Int), ((0 ≤ i ∧ i ≤ n) ∧ size = sumC (ls.take i.toNat)) → Inv_concatA (ls, size0, n, i0) (ls, size, n, i) := fun _ _ h => ⟨⟨rfl, rfl⟩, h⟩
  generalize hIe : Inv_concatA (ls, size0, n, i0) = Inv at hInv ⊢
  have hMe : ∀ (size : Int) (i : Int), M_concatA (ls, size0, n, i0) (ls, size, n, i) = (n - i).toNat := fun _ _ => rfl
  generalize M_concatA (ls, size0, n, i0) = Me at hMe ⊢
  have hE0 : ∀ (size : Int) (i : Int), (size = sumC ls) → E0_concatA (ls, size0, n, i0) (ls, size, n, i) := fun _ _ h => ⟨⟨rfl, rfl⟩, h⟩
  generalize E0_concatA (ls, size0, n, i0) = EE0 at hE0 ⊢
  have hR : ∀ (size : Int) (i : Int), (False) → R_concatA (ls, size0, n, i0) (ls, size, n, i) := fun _ _ h => ⟨⟨rfl, rfl⟩, h⟩
  generalize R_concatA (ls, size0, n, i0) = RR at hR ⊢
  obtain ⟨hi, hI⟩ := hI
  obtain ⟨p1, p2, rfl, p3⟩ := hp
  have hlen := wfT_len hw_ls
  by_cases hlt : i < lenI ls
  · have ei : addW .i64 i 1 = i + 1 := addW64 (by omega) (by omega)
    have h1 : inI i (lenI ls) := ⟨hi.1, hlt⟩
    have hs : sumC (ls.take (i + 1).toNat) = size + lenI (nth (.list CodeT) ls i) := by
      rw [hI, take_nth (t := .list CodeT) hi.1 hlt]; unfold sumC; rw [List.flatten_append, lenI_app]; simp [List.flatten]
    have hle : sumC (ls.take (i + 1).toNat) ≤ sumC ls := sumC_take _ _
    have h0 : 0 ≤ size := by rw [hI]; exact lenI_nn _
    have h2 := lenI_nn (nth (.list CodeT) ls i)
    have es : addW .i64 size (lenI (nth (.list CodeT) ls i)) = size + lenI (nth (.list CodeT) ls i) := addW64 (by omega) (by omega)
    rw [ltB_t.2 hlt]
    simp only [ei, es, ltB_f.2 (show (0:Int) ≤ size + lenI (nth (.list CodeT) ls i) by omega)]
    simp only [simpsL, implies_true, forall_const, if_true, if_false, reduceCtorEq, hMe, h1]
    exact ⟨h1, hInv _ _ ⟨by omega, hs.symm⟩, by omega⟩
  · rw [take_all (by omega)] at hI
    rw [ltB_f.2 (Int.not_lt.1 hlt)]
    simp only [simpsL, implies_true, forall_const, if_true, if_false, reduceCtorEq]
    exact hE0 _ _ hI
theorem summ_concatA : SummOK Try.prog (loopAt Try.f21 3) S_concatA :=
  summN_ok (L := []) (fuel := 100) tabOK fsOK_same (mkCall fsOK_same specsOK_grow fnsOK) (fun C => mkDraw fsOK_same (mkCall fsOK_same specsOK_grow fnsOK) C) loopsOK_nil Inv_concatA M_concatA
    (fun x hp hw => by
      obtain ⟨ls, size, n, i⟩ := x
      have hp : i = 0 ∧ size = 0 ∧ n = lenI ls ∧ sumC ls ≤ 1000000 := hp
      have hw_ls := wfL_view hw 9 rfl
      have hw_size := wfL_int hw 3 rfl
      have hw_n := wfL_int hw 10 rfl
      have hw_i := wfL_int hw 11 rfl
      obtain ⟨rfl, rfl, rfl, _⟩ := hp
      exact ⟨⟨rfl, rfl⟩, ⟨by omega, lenI_nn _⟩, rfl⟩)
    (body_concatA_ok)
abbrev X_concatB := List (den (.list CodeT)) × Int × Int × List (den CodeT)
def sh_concatB : X_concatB → St := fun x => match x with | (ls, n, i, out) => ⟨setL (rep .bad 36) [(25, .view [] (.list CodeT) ls), (26, .int .i64 n), (27, .int .i64 i), (6, .own 0)], [.row 33 CodeT out []], [0, 1], [0, 1]⟩
def sx_concatB : AExit → X_concatB → St := fun _ => sh_concatB
def nx_concatB (σ : St) : X_concatB := (gV (.list CodeT) σ 25, gI σ 26, gI σ 27, rV CodeT σ 0)
def Pre_concatB : X_concatB → Prop := fun x => match x with | (ls, n, i, out) => i = 0 ∧ n = lenI ls ∧ out = [] ∧ sumC ls ≤ 1000000
def E2_concatB : X_concatB → X_concatB → Prop := fun x y => match x, y with | (ls0, n0, i0, out0), (ls, n, i, out) => (ls = ls0 ∧ n = n0) ∧ (out = joinC ls)
def R_concatB : X_concatB → X_concatB → Prop := fun x y => match x, y with | (ls0, n0, i0, out0), (ls, n, i, out) => (ls = ls0 ∧ n = n0) ∧ (False)
def D_concatB : X_concatB → LEnds X_concatB := fun x => ⟨[(2, E2_concatB x)], R_concatB x⟩
noncomputable def S_concatB : Summ := summN sh_concatB sx_concatB nx_concatB Pre_concatB D_concatB
def Inv_concatB : X_concatB → X_concatB → Prop := fun x y => match x, y with | (ls0, n0, i0, out0), (ls, n, i, out) => (ls = ls0 ∧ n = n0) ∧ ((0 ≤ i ∧ i ≤ n) ∧ out = joinC (ls.take i.toNat))
def M_concatB : X_concatB → X_concatB → Nat := fun x y => match x, y with | (ls0, n0, i0, out0), (ls, n, i, out) => (n - i).toNat
theorem body_concatB (Inv : X_concatB → Prop) (meas : X_concatB → Nat) (nn : Nat) (EE2 RR : X_concatB → Prop) (ls : List (den (.list CodeT))) (n : Int) (i : Int) (out : List (den CodeT)) : awp tab fs_same (acall tab fs_same specs_grow fns 100 20) [] 100 (loopAt Try.f21 11) (bodyN sh_concatB sx_concatB nx_concatB Inv meas nn ⟨[(2, EE2)], RR⟩) (sh_concatB (ls, n, i, out)) =
  (ifB (ltB i n) (need (inI i (lenI ls)) (need (fitA (lenI out + lenI (nth CodeT.list ls i))) (eqDr ls (eqIr n (eqIr (addW IntKind.i64 i 1) (eqDr (appL out (nth CodeT.list
    ls i)) (Inv (ls, n, addW IntKind.i64 i 1, appL out (nth CodeT.list ls i)) ∧ meas (ls, n, addW IntKind.i64 i 1, appL out (nth CodeT.list ls i)) < nn))))))) (eqDr
    ls (eqIr n (eqIr i (eqDr out (EE2 (ls, n, i, out))))))) := by kernel_rfl
theorem body_concatB_ok : ∀ x y, Pre_concatB x → Inv_concatB x y → wfS (sh_concatB y) → Hd (awp tab fs_same (acall tab fs_same specs_grow fns 100 20) [] 100 (loopAt Try.f21 11) (bodyN sh_concatB sx_concatB nx_concatB (Inv_concatB x) (M_concatB x) (M_concatB x y) (D_concatB x)) (sh_concatB y)) := by
  rintro ⟨ls0, n0, i0, out0⟩ ⟨ls, n, i, out⟩ hp hI hw
  obtain ⟨⟨rfl, rfl⟩, hI⟩ := hI
  have hw_ls := wfL_view hw 25 rfl
  have hw_n := wfL_int hw 26 rfl
  have hw_i := wfL_int hw 27 rfl
  have hw_out := wfR_row hw 0 rfl
  have hp : i0 = 0 ∧ n = lenI ls ∧ out0 = [] ∧ sumC ls ≤ 1000000 := hp
  unfold D_concatB
  rw [body_concatB]
  refine ⟨?_⟩
  have hInv : ∀ (i : Int) (out : List (den CodeT)), ((0 ≤ i ∧ i ≤ n) ∧ out = joinC (ls.take i.toNat)) → Inv_concatB (ls, n, i0, out0) (ls, n, i, out) := fun _ _ h => ⟨⟨rfl, rfl⟩, h⟩
  generalize hIe : Inv_concatB (ls, n, i0, out0) = Inv at hInv ⊢
  have hMe : ∀ (i : Int) (out : List (den CodeT)), M_concatB (ls, n, i0, out0) (ls, n, i, out) = (n - i).toNat := fun _ _ => rfl
  generalize M_concatB (ls, n, i0, out0) = Me at hMe ⊢
  have hE2 : ∀ (i : Int) (out : List (den CodeT)), (out = joinC ls) → E2_concatB (ls, n, i0, out0) (ls, n, i, out) := fun _ _ h => ⟨⟨rfl, rfl⟩, h⟩
  generalize E2_concatB (ls, n, i0, out0) = EE2 at hE2 ⊢
  have hR : ∀ (i : Int) (out : List (den CodeT)), (False) → R_concatB (ls, n, i0, out0) (ls, n, i, out) := fun _ _ h => ⟨⟨rfl, rfl⟩, h⟩
  generalize R_concatB (ls, n, i0, out0) = RR at hR ⊢
  obtain ⟨hi, hI⟩ := hI
  obtain ⟨p1, rfl, p2, p3⟩ := hp
  have hlen := wfT_len hw_ls
  by_cases hlt : i < lenI ls
  · have ei : addW .i64 i 1 = i + 1 := addW64 (by omega) (by omega)
    have h1 : inI i (lenI ls) := ⟨hi.1, hlt⟩
    have hs : out ++ nth (.list CodeT) ls i = joinC (ls.take (i + 1).toNat) := by
      rw [hI, take_nth (t := .list CodeT) hi.1 hlt]; unfold joinC; rw [List.flatten_append]; simp [List.flatten]
    have hle : sumC (ls.take (i + 1).toNat) ≤ sumC ls := sumC_take _ _
    have hf : fitA (lenI out + lenI (nth (.list CodeT) ls i)) := by
      rw [← lenI_app, hs]
      have : lenI (joinC (ls.take (i + 1).toNat)) = sumC (ls.take (i + 1).toNat) := rfl
      unfold fitA; omega
    rw [ltB_t.2 hlt]
    simp only [ei]
    simp only [simpsL, implies_true, forall_const, if_true, if_false, reduceCtorEq, hMe, h1, hf]
    exact ⟨h1, hInv _ _ ⟨by omega, hs⟩, by omega⟩
  · rw [take_all (by omega)] at hI
    rw [ltB_f.2 (Int.not_lt.1 hlt)]
    simp only [simpsL, implies_true, forall_const, if_true, if_false, reduceCtorEq]
    exact hE2 _ _ hI
theorem summ_concatB : SummOK Try.prog (loopAt Try.f21 11) S_concatB :=
  summN_ok (L := []) (fuel := 100) tabOK fsOK_same (mkCall fsOK_same specsOK_grow fnsOK) (fun C => mkDraw fsOK_same (mkCall fsOK_same specsOK_grow fnsOK) C) loopsOK_nil Inv_concatB M_concatB
    (fun x hp hw => by
      obtain ⟨ls, n, i, out⟩ := x
      have hp : i = 0 ∧ n = lenI ls ∧ out = [] ∧ sumC ls ≤ 1000000 := hp
      have hw_ls := wfL_view hw 25 rfl
      have hw_n := wfL_int hw 26 rfl
      have hw_i := wfL_int hw 27 rfl
      have hw_out := wfR_row hw 0 rfl
      obtain ⟨rfl, rfl, rfl, _⟩ := hp
      exact ⟨⟨rfl, rfl⟩, ⟨by omega, lenI_nn _⟩, rfl⟩)
    (body_concatB_ok)
noncomputable def fns_concat : Fns := (21, Try.f21, [(3, S_concatA), (11, S_concatB)]) :: fns
theorem fn_concat : FnOK Try.prog 21 Try.f21 [(3, S_concatA), (11, S_concatB)] := fnOK_loops Try.func21 (fun vs w => Try.call21 vs w) (by kernel_rfl) fun k S h => by
  simp only [List.mem_cons, Prod.mk.injEq, List.not_mem_nil, or_false] at h
  rcases h with ⟨rfl, rfl⟩ | ⟨rfl, rfl⟩
  · exact summ_concatA
  · exact summ_concatB
theorem fns_concatOK : FnsOK Try.prog fns_concat := fnsOK_cons fn_concat fnsOK
noncomputable def concatS : List AV → OV := fun args => match args with | [.view [] (.list (.prod (.int .i64) (.prod (.int .i64) (.prod (.int .i64) (.int .i64))))) ls] => some ([leI (sumC ls) 1000000], .view [] CodeT (joinC ls)) | _ => none
theorem concat_eq (ls : List (List (den CodeT))) : acall tab fs_same specs_grow fns_concat 100 20 21 [.view [] (.list CodeT) ls] [] (fun o mm _ _ => resN (.sl CodeT) mm o = .ret (.view [] CodeT (joinC ls))) =
  (eqDr ls (eqIr 0 (eqDr ls (eqIr (lenI ls) (eqIr 0 (((0 : Int) = 0 ∧ (0 : Int) = 0 ∧ lenI ls = lenI ls ∧ sumC ls ≤ 1000000) ∧ ((∀ (y : X_concatA), (y.1 = ls ∧ y.2.2.1
    = lenI ls) ∧ y.2.1 = sumC y.1 → need (leI 0 y.2.1) (need (fitA y.2.1) (ifB (ltB 0 y.2.1) (eqDr y.1 (eqIr (lenI y.1) (eqIr 0 (eqDr (@List.nil (den CodeT)) (((0 :
    Int) = 0 ∧ lenI y.1 = lenI y.1 ∧ @List.nil (den CodeT) = @List.nil (den CodeT) ∧ sumC y.1 ≤ 1000000) ∧ ((∀ (y_1 : X_concatB), (y_1.1 = y.1 ∧ y_1.2.1 = lenI y.1)
    ∧ y_1.2.2.2 = joinC y_1.1 → AOut.ret (AV.view [] CodeT y_1.2.2.2) = AOut.ret (AV.view [] CodeT (joinC ls))) ∧ True) ∧ ∀ (y_1 : X_concatB), (y_1.1 = y.1 ∧ y_1.2.1
    = lenI y.1) ∧ False → AOut.ret AV.bad = AOut.ret (AV.view [] CodeT (joinC ls))))))) (eqDr y.1 (eqIr (lenI y.1) (eqIr 0 (eqDr (@List.nil (den CodeT)) (((0 : Int)
    = 0 ∧ lenI y.1 = lenI y.1 ∧ @List.nil (den CodeT) = @List.nil (den CodeT) ∧ sumC y.1 ≤ 1000000) ∧ ((∀ (y_1 : X_concatB), (y_1.1 = y.1 ∧ y_1.2.1 = lenI y.1) ∧ y_1.2.2.2
    = joinC y_1.1 → AOut.ret (AV.view [] CodeT y_1.2.2.2) = AOut.ret (AV.view [] CodeT (joinC ls))) ∧ True) ∧ ∀ (y_1 : X_concatB), (y_1.1 = y.1 ∧ y_1.2.1 = lenI y.1)
    ∧ False → AOut.ret AV.bad = AOut.ret (AV.view [] CodeT (joinC ls)))))))))) ∧ True) ∧ ∀ (y : X_concatA), (y.1 = ls ∧ y.2.2.1 = lenI ls) ∧ False → AOut.ret AV.bad
    = AOut.ret (AV.view [] CodeT (joinC ls)))))))) := by kernel_rfl
theorem concat_ok : SpecOK Try.prog 21 (fspecS (pureN [.sl (.list CodeT)] concatS)) := pureN_ok (mkCall fsOK_same specsOK_grow fns_concatOK) (.sl CodeT) (fun vs w => Try.call21 vs w) fun args ps v h hp hw => by
  unfold concatS at h
  split at h
  · cases h
    rename_i ls
    rw [concat_eq]
    refine ⟨?_⟩
    simp only [allP_cons, allP_nil, and_true] at hp
    simp only [wfAL, wfA, wfS, wfM, wfB, and_true, true_and, wfT_int, wfT_str, wfT_bool, wfT_prod] at hw
    have h0 : 0 ≤ sumC ls := lenI_nn _
    unfold leI at hp
    simp only [eqI_def, eqD_def, need_def, ifB_def, true_and, and_true, leI, fitA]
    refine ⟨hp, fun y hy => ?_, fun y hy => hy.2.elim⟩
    obtain ⟨ls', size, n', i'⟩ := y
    dsimp only at hy ⊢
    obtain ⟨⟨rfl, rfl⟩, rfl⟩ := hy
    refine ⟨h0, by omega, fun _ => ⟨hp, fun z hz => ?_, fun z hz => hz.2.elim⟩, fun _ => ⟨hp, fun z hz => ?_, fun z hz => hz.2.elim⟩⟩
    · rw [hz.2, hz.1.1]
    · rw [hz.2, hz.1.1]
  · cases h
noncomputable def FF_concat : FSpec := pureN [.sl (.list CodeT)] concatS
theorem FFok_concat : SpecOK Try.prog 21 (fspecS FF_concat) := concat_ok
noncomputable def fs_concat : FS := (21, FF_concat) :: fs_same
theorem fsOK_concat : FSOK Try.prog fs_concat := fsOK_cons FFok_concat fsOK_same
end Go.Proofs.Ytkdemkkepepbdaa.Sx

