/- What is reckoned at each place: what the functions come to. -/
import Derived.Test.YtmdjpohmbkodeaaSmTraceC
namespace Go.Proofs.Ytmdjpohmbkodeaa.Sx
open Go.RowKit
set_option maxRecDepth 100000
set_option maxHeartbeats 4000000
set_option linter.unusedVariables false
set_option linter.unusedSimpArgs false
/-- what is so at each of so many places -/
def tabB (R : Int) (f : Int → Bool) : List Bool := (List.range R.toNat).map fun (k : Nat) => f k
/-- so many of the last ones up to a place hold -/
def heldG (p : List Bool) : Nat → Int
  | 0 => if nth .bool p 0 = true then 1 else 0
  | k + 1 => if nth .bool p ((k + 1 : Nat) : Int) = true then heldG p k + 1 else 0
/-- one holds so many ago, from some time on -/
def agoG (q : List Bool) (i far : Int) : Nat → Int → Bool
  | 0, _ => false
  | k + 1, a => if far < a then false else if nth .bool q (i - a) = true then true else agoG q i far k (a + 1)
def heldF (p : List Bool) (i : Int) : Int := if i < 0 then 0 else heldG p i.toNat
def farF (to i held : Int) : Int := if to = -1 then min i held else min (min i held) to
def agoF (q : List Bool) (i far a : Int) : Bool := agoG q i far (far + 1 - a).toNat a
def yesV (R : Int) : List Bool := tabB R fun _ => true
def notV (R : Int) (p : List Bool) : List Bool := tabB R fun i => !(nth .bool p i)
def anyAt (l : List (List Bool)) (i : Int) : Bool := l.any fun p => nth .bool p i
def anyV (R : Int) (l : List (List Bool)) : List Bool := tabB R fun i => l.any fun p => nth .bool p i
def prevAt (l : List (List Bool)) (i : Int) : Bool := decide (0 < i) && nth .bool (nth (.list .bool) l 0) (i - 1)
def prevV (R : Int) (l : List (List Bool)) : List Bool := tabB R fun i => decide (0 < i) && nth .bool (nth (.list .bool) l 0) (i - 1)
def sinceV (R fr to : Int) (p q : List Bool) : List Bool := tabB R fun i => agoF q i (farF to i (heldF p i)) fr
def oneR (R : Int) : Prop := R ≤ 1000000
def allR (l : List (List Bool)) (i : Int) : Prop := 0 ≤ i ∧ ∀ p ∈ l, i < lenI p
def sameR (l : List (List Bool)) (R : Int) : Prop := ∀ p ∈ l, lenI p = R
def headR (l : List (List Bool)) (R : Int) : Prop := 1 ≤ lenI l ∧ lenI (nth (.list .bool) l 0) = R
def prevR (l : List (List Bool)) (i : Int) : Prop := 1 ≤ lenI l ∧ i ≤ lenI (nth (.list .bool) l 0)
theorem tab_len {R : Int} {f : Int → Bool} (h : 0 ≤ R) : lenI (tabB R f) = R := by simp [tabB, lenI]; omega
theorem tab_nth {R : Int} {f : Int → Bool} {i : Int} (h0 : 0 ≤ i) (h : i < R) : nth .bool (tabB R f) i = f i := by
  unfold nth tabB
  have e : i.toNat < R.toNat := by omega
  simp only [List.getD, List.getElem?_map, List.getElem?_range e]
  show f ((i.toNat : Nat) : Int) = f i
  rw [show ((i.toNat : Nat) : Int) = i by omega]
theorem tab_ext {xs : List Bool} {R : Int} {f : Int → Bool} (hl : lenI xs = R) (h : ∀ j, 0 ≤ j → j < R → nth .bool xs j = f j) : xs = tabB R f := by
  apply List.ext_getElem
  · have := tab_len (R := R) (f := f) (by have := lenI_nn xs; omega)
    unfold lenI at *; omega
  · intro n h1 h2
    have e1 : nth .bool xs (n : Int) = xs[n] := by simp [nth, List.getD, h1]
    have e2 : nth .bool (tabB R f) (n : Int) = (tabB R f)[n] := by simp [nth, List.getD, h2]
    unfold lenI at hl
    rw [← e1, ← e2, h n (by omega) (by omega), tab_nth (by omega) (by omega)]
theorem set_step {xs : List Bool} {i : Int} {b : Bool} {f : Int → Bool} (h0 : 0 ≤ i) (h : i < lenI xs) (hb : b = f i) (hI : ∀ j, 0 ≤ j → j < i → nth .bool xs j = f j) :
    lenI (setI xs i b) = lenI xs ∧ ∀ j, 0 ≤ j → j < i + 1 → nth .bool (setI xs i b) j = f j := by
  refine ⟨by simp [lenI, setI], fun j j0 j1 => ?_⟩
  by_cases e : j = i
  · subst e
    rw [← hb]
    unfold nth setI lenI at *
    have : j.toNat < xs.length := by omega
    simp [List.getD, this]
  · rw [← hI j j0 (by omega)]
    unfold nth setI
    simp only [List.getD, List.getElem?_set]
    rw [if_neg (by omega)]
def cloIs (id : Nat) : List AV → Bool
  | [_, .fn (.func k) _ _] => Nat.beq k id
  | _ => false
def altS (id : Nat) (S1 S2 : List AV → List Blk → AK → Prop) : List AV → List Blk → AK → Prop := fun args m K => match cloIs id args with | true => S1 args m K | false => S2 args m K
theorem altS_ok {P : Program} {f : FuncId} {id : Nat} {S1 S2 : List AV → List Blk → AK → Prop} (h1 : SpecOK P f S1) (h2 : SpecOK P f S2) : SpecOK P f (altS id S1 S2) := ⟨h1.step, fun {args m K} hS => by
  unfold altS at hS
  split at hS
  · exact h1.calls hS
  · exact h2.calls hS⟩
noncomputable def fnNotS : List AV → OV := fun args => match args with | [.int .i64 i, .vptr [] [.view [] .bool p]] => some ([inI i (lenI p)], .bool (notB (nth .bool p i))) | _ => none
theorem fnNot_eq (i : Int) (p : List Bool) : acall tab fs_Atom specs_copiedS fns 100 20 91 [.int .i64 i, .vptr [] [.view [] .bool p]] [] (fun o mm _ _ => resN (.any) mm o = .ret (.bool (notB (nth .bool p i)))) =
  (need (inI i (lenI p)) (AOut.ret (AV.bool (notB (nth Ty.bool p i))) = AOut.ret (AV.bool (notB (nth Ty.bool p i))))) := by kernel_rfl
theorem fnNot_ok : SpecOK Try.prog 91 (fspecS (pureN [] fnNotS)) := pureN_ok (mkCall fsOK_Atom specsOK_copiedS fnsOK) (.any) (fun vs w => Try.call91 vs w) fun args ps v h hp hw => by
  unfold fnNotS at h
  split at h
  · cases h
    rename_i i p
    rw [fnNot_eq]
    refine ⟨?_⟩
    simp only [allP_cons, allP_nil, and_true] at hp
    simp only [wfAL, wfA, wfS, wfM, wfB, and_true, true_and, wfT_int, wfT_str, wfT_bool, wfT_prod] at hw
    simp only [simpsL, implies_true, forall_const, if_true, if_false, reduceCtorEq]
    exact hp
  · cases h
noncomputable def FF_fnNot : FSpec := pureN [] fnNotS
theorem FFok_fnNot : SpecOK Try.prog 91 (fspecS FF_fnNot) := fnNot_ok
noncomputable def fs_fnNot : FS := (91, FF_fnNot) :: fs_Atom
theorem fsOK_fnNot : FSOK Try.prog fs_fnNot := fsOK_cons FFok_fnNot fsOK_Atom
noncomputable def fnYesS : List AV → OV := fun args => match args with | [.int .i64 i] => some ([], .bool true) | _ => none
theorem fnYes_eq (i : Int) : acall tab fs_fnNot specs_copiedS fns 100 20 80 [.int .i64 i] [] (fun o mm _ _ => resN (.any) mm o = .ret (.bool true)) =
  (AOut.ret (AV.bool true) = AOut.ret (AV.bool true)) := by kernel_rfl
theorem fnYes_ok : SpecOK Try.prog 80 (fspecS (pureN [] fnYesS)) := pureN_ok (mkCall fsOK_fnNot specsOK_copiedS fnsOK) (.any) (fun vs w => Try.call80 vs w) fun args ps v h hp hw => by
  unfold fnYesS at h
  split at h
  · cases h
    rename_i i
    rw [fnYes_eq]
    refine ⟨?_⟩
    simp only [allP_cons, allP_nil, and_true] at hp
    simp only [wfAL, wfA, wfS, wfM, wfB, and_true, true_and, wfT_int, wfT_str, wfT_bool, wfT_prod] at hw
    first | (simp only [simpsL, implies_true, forall_const, if_true, if_false, reduceCtorEq]; done) | (simp only [simpsL, implies_true, forall_const, if_true, if_false, reduceCtorEq]; rfl)
  · cases h
noncomputable def FF_fnYes : FSpec := pureN [] fnYesS
theorem FFok_fnYes : SpecOK Try.prog 80 (fspecS FF_fnYes) := fnYes_ok
noncomputable def fs_fnYes : FS := (80, FF_fnYes) :: fs_fnNot
theorem fsOK_fnYes : FSOK Try.prog fs_fnYes := fsOK_cons FFok_fnYes fsOK_fnNot
noncomputable def fnPrevS : List AV → OV := fun args => match args with | [.int .i64 i, .vptr [] [.view [] (.list .bool) l]] => some ([prevR l i], .bool (prevAt l i)) | _ => none
theorem fnPrev_eq (i : Int) (l : List (List Bool)) : acall tab fs_fnYes specs_copiedS fns 100 20 84 [.int .i64 i, .vptr [] [.view [] (.list .bool) l]] [] (fun o mm _ _ => resN (.any) mm o = .ret (.bool (prevAt l i))) =
  (need (impB (ltB 0 i) (inI 0 (lenI l))) (need (impB (ltB 0 i) (inI (subW IntKind.i64 i 1) (lenI (nth Ty.bool.list l 0)))) (AOut.ret (AV.bool (selB (ltB 0 i) (nth
    Ty.bool (nth Ty.bool.list l 0) (subW IntKind.i64 i 1)) false)) = AOut.ret (AV.bool (prevAt l i))))) := by kernel_rfl
theorem fnPrev_ok : SpecOK Try.prog 84 (fspecS (pureN [] fnPrevS)) := pureN_ok (mkCall fsOK_fnYes specsOK_copiedS fnsOK) (.any) (fun vs w => Try.call84 vs w) fun args ps v h hp hw => by
  unfold fnPrevS at h
  split at h
  · cases h
    rename_i i l
    rw [fnPrev_eq]
    refine ⟨?_⟩
    simp only [allP_cons, allP_nil, and_true] at hp
    simp only [wfAL, wfA, wfS, wfM, wfB, and_true, true_and, wfT_int, wfT_str, wfT_bool, wfT_prod] at hw
    unfold prevR at hp
    have hl := wfT_len hw.2
    by_cases h0 : 0 < i
    · have e : subW .i64 i 1 = i - 1 := subW64 (by omega) (by have := has64r hw.1; omega)
      have hx : prevAt l i = nth .bool (nth (.list .bool) l 0) (i - 1) := by unfold prevAt; simp [h0]
      rw [ltB_t.2 h0, hx, e]
      simp only [simpsL, implies_true, forall_const, if_true, if_false, reduceCtorEq]
      repeat' (first | with_reducible rfl | omega | trivial | refine ⟨?_, ?_⟩ | intro _)
    · have hx : prevAt l i = false := by unfold prevAt; simp [h0]
      rw [ltB_f.2 (Int.not_lt.1 h0), hx]
      simp only [simpsL, implies_true, forall_const, if_true, if_false, reduceCtorEq]
  · cases h
noncomputable def FF_fnPrev : FSpec := pureN [] fnPrevS
theorem FFok_fnPrev : SpecOK Try.prog 84 (fspecS FF_fnPrev) := fnPrev_ok
noncomputable def fs_fnPrev : FS := (84, FF_fnPrev) :: fs_fnYes
theorem fsOK_fnPrev : FSOK Try.prog fs_fnPrev := fsOK_cons FFok_fnPrev fsOK_fnYes
noncomputable def fnAny1S : List AV → OV := fun args => match args with | [.view [] .bool p, .vptr [] [.int .i64 i]] => some ([inI i (lenI p)], .bool (nth .bool p i)) | _ => none
theorem fnAny1_eq (p : List Bool) (i : Int) : acall tab fs_fnPrev specs_copiedS fns 100 20 94 [.view [] .bool p, .vptr [] [.int .i64 i]] [] (fun o mm _ _ => resN (.any) mm o = .ret (.bool (nth .bool p i))) =
  (need (inI i (lenI p)) (AOut.ret (AV.bool (nth Ty.bool p i)) = AOut.ret (AV.bool (nth Ty.bool p i)))) := by kernel_rfl
theorem fnAny1_ok : SpecOK Try.prog 94 (fspecS (pureN [.sl .bool] fnAny1S)) := pureN_ok (mkCall fsOK_fnPrev specsOK_copiedS fnsOK) (.any) (fun vs w => Try.call94 vs w) fun args ps v h hp hw => by
  unfold fnAny1S at h
  split at h
  · cases h
    rename_i p i
    rw [fnAny1_eq]
    refine ⟨?_⟩
    simp only [allP_cons, allP_nil, and_true] at hp
    simp only [wfAL, wfA, wfS, wfM, wfB, and_true, true_and, wfT_int, wfT_str, wfT_bool, wfT_prod] at hw
    simp only [simpsL, implies_true, forall_const, if_true, if_false, reduceCtorEq]
    exact hp
  · cases h
noncomputable def FF_fnAny1 : FSpec := pureN [.sl .bool] fnAny1S
theorem FFok_fnAny1 : SpecOK Try.prog 94 (fspecS FF_fnAny1) := fnAny1_ok
noncomputable def fs_fnAny1 : FS := (94, FF_fnAny1) :: fs_fnPrev
theorem fsOK_fnAny1 : FSOK Try.prog fs_fnAny1 := fsOK_cons FFok_fnAny1 fsOK_fnPrev
def idxAny_p (c : Int) (x : den (.list .bool)) : Bool := nth .bool x c
def idxAny_f (c : Int) (n : List (den (.list .bool))) : Int := idxG (idxAny_p c) n 0
theorem idxAny_any (c : Int) (n : List (den (.list .bool))) : leB 0 (idxAny_f c n) = n.any (idxAny_p c) := idxG_any (by omega)
abbrev X_idxAny := List (den (.list .bool)) × Int × Int × Int × Int
def sh_idxAny : X_idxAny → St := fun x => match x with | (n, len, i, r, c) => ⟨setL (rep .bad 19) [(0, .view [] (.list .bool) n), (7, .int .i64 len), (8, .int .i64 i), (1, .fn (.func 94) [] [.vptr [] [.int .i64 c]])], [], [], []⟩
def shr_idxAny : X_idxAny → St := fun x => match x with | (n, len, i, r, c) => ⟨setL (rep .bad 19) [(0, .view [] (.list .bool) n), (7, .int .i64 len), (8, .int .i64 i), (4, .int .i64 r), (1, .fn (.func 94) [] [.vptr [] [.int .i64 c]])], [], [], []⟩
def sx_idxAny : AExit → X_idxAny → St := fun e => match e with | .ret => shr_idxAny | _ => sh_idxAny
def nx_idxAny (σ : St) : X_idxAny := (gV (.list .bool) σ 0, gI σ 7, gI σ 8, gI σ 4, capI σ 1 0)
def Pre_idxAny : X_idxAny → Prop := fun x => match x with | (n, len, i, r, c) => i = 0 ∧ len = lenI n ∧ allR n c
def E0_idxAny : X_idxAny → X_idxAny → Prop := fun x y => match x, y with | (n0, len0, i0, r0, c0), (n, len, i, r, c) => (n = n0 ∧ len = len0 ∧ c = c0) ∧ (idxAny_f c n = -1)
def R_idxAny : X_idxAny → X_idxAny → Prop := fun x y => match x, y with | (n0, len0, i0, r0, c0), (n, len, i, r, c) => (n = n0 ∧ len = len0 ∧ c = c0) ∧ (r = idxAny_f c n)
def D_idxAny : X_idxAny → LEnds X_idxAny := fun x => ⟨[(0, E0_idxAny x)], R_idxAny x⟩
noncomputable def S_idxAny : Summ := summN sh_idxAny sx_idxAny nx_idxAny Pre_idxAny D_idxAny
def Inv_idxAny : X_idxAny → X_idxAny → Prop := fun x y => match x, y with | (n0, len0, i0, r0, c0), (n, len, i, r, c) => (n = n0 ∧ len = len0 ∧ c = c0) ∧ ((0 ≤ i ∧ i ≤ len) ∧ idxG (idxAny_p c) (n.drop i.toNat) i = idxAny_f c n)
def M_idxAny : X_idxAny → X_idxAny → Nat := fun x y => match x, y with | (n0, len0, i0, r0, c0), (n, len, i, r, c) => (len - i).toNat
theorem body_idxAny (Inv : X_idxAny → Prop) (meas : X_idxAny → Nat) (nn : Nat) (EE0 RR : X_idxAny → Prop) (n : List (den (.list .bool))) (len : Int) (i : Int) (r : Int) (c : Int) : awp tab fs_fnAny1 (acall tab fs_fnAny1 specs_copiedS fns 100 20) [] 100 (loopAt Try.f103 2) (bodyN sh_idxAny sx_idxAny nx_idxAny Inv meas nn ⟨[(0, EE0)], RR⟩) (sh_idxAny (n, len, i, r, c)) =
  (ifB (ltB i len) (need (inI i (lenI n)) (need (inI c (lenI (nth Ty.bool.list n i))) (ifB (nth Ty.bool (nth Ty.bool.list n i) c) (eqDr n (needr (AV.fn (Fn.func 94)
    ([]) (AV.vptr [] (AV.int IntKind.i64 c :: []) :: [])) (eqIr i (eqIr len (eqIr i (RR (n, len, i, i, c))))))) (eqDr n (needr (AV.fn (Fn.func 94) ([]) (AV.vptr [] (AV.int
    IntKind.i64 c :: []) :: [])) (eqIr len (eqIr (addW IntKind.i64 i 1) (Inv (n, len, addW IntKind.i64 i 1, 0, c) ∧ meas (n, len, addW IntKind.i64 i 1, 0, c) < nn))))))))
    (eqDr n (needr (AV.fn (Fn.func 94) ([]) (AV.vptr [] (AV.int IntKind.i64 c :: []) :: [])) (eqIr len (eqIr i (EE0 (n, len, i, 0, c))))))) := by kernel_rfl
theorem body_idxAny_ok : ∀ x y, Pre_idxAny x → Inv_idxAny x y → wfS (sh_idxAny y) → Hd (awp tab fs_fnAny1 (acall tab fs_fnAny1 specs_copiedS fns 100 20) [] 100 (loopAt Try.f103 2) (bodyN sh_idxAny sx_idxAny nx_idxAny (Inv_idxAny x) (M_idxAny x) (M_idxAny x y) (D_idxAny x)) (sh_idxAny y)) := by
  rintro ⟨n0, len0, i0, r0, c0⟩ ⟨n, len, i, r, c⟩ hp hI hw
  obtain ⟨⟨rfl, rfl, rfl⟩, hI⟩ := hI
  have hw_n := wfL_view hw 0 rfl
  have hw_len := wfL_int hw 7 rfl
  have hw_i := wfL_int hw 8 rfl
  have hp : i0 = 0 ∧ len = lenI n ∧ allR n c := hp
  unfold D_idxAny
  rw [body_idxAny]
  refine ⟨?_⟩
  have hInv : ∀ (i : Int) (r : Int), ((0 ≤ i ∧ i ≤ len) ∧ idxG (idxAny_p c) (n.drop i.toNat) i = idxAny_f c n) → Inv_idxAny (n, len, i0, r0, c) (n, len, i, r, c) := fun _ _ h => ⟨⟨rfl, rfl, rfl⟩, h⟩
  generalize hIe : Inv_idxAny (n, len, i0, r0, c) = Inv at hInv ⊢
  have hMe : ∀ (i : Int) (r : Int), M_idxAny (n, len, i0, r0, c) (n, len, i, r, c) = (len - i).toNat := fun _ _ => rfl
  generalize M_idxAny (n, len, i0, r0, c) = Me at hMe ⊢
  have hE0 : ∀ (i : Int) (r : Int), (idxAny_f c n = -1) → E0_idxAny (n, len, i0, r0, c) (n, len, i, r, c) := fun _ _ h => ⟨⟨rfl, rfl, rfl⟩, h⟩
  generalize E0_idxAny (n, len, i0, r0, c) = EE0 at hE0 ⊢
  have hR : ∀ (i : Int) (r : Int), (r = idxAny_f c n) → R_idxAny (n, len, i0, r0, c) (n, len, i, r, c) := fun _ _ h => ⟨⟨rfl, rfl, rfl⟩, h⟩
  generalize R_idxAny (n, len, i0, r0, c) = RR at hR ⊢
  obtain ⟨hi, hI⟩ := hI
  obtain ⟨p1, rfl, hn⟩ := hp
  by_cases hlt : i < lenI n
  · rw [drop_nth (t := (.list .bool)) hi.1 hlt] at hI
    simp only [idxG] at hI
    have hlen := wfT_len hw_n
    have hwx := wfT_nth hw_n hi.1 hlt
    have ei : addW .i64 i 1 = i + 1 := addW64 (by omega) (by omega)
    have hin : inI i (lenI n) := ⟨hi.1, hlt⟩
    have hal : 0 ≤ c ∧ c < lenI (nth (.list .bool) n i) := ⟨hn.1, hn.2 _ (nth_mem hi.1 hlt)⟩
    cases hb : idxAny_p c (nth (.list .bool) n i)
    · rw [hb] at hI
      have hb2 := hb
      unfold idxAny_p at hb2
      simp only [ltB_t.2 hlt, hb2, hin, ei, hMe, simpsL, implies_true, forall_const, if_true, if_false, reduceCtorEq] at hI ⊢
      (repeat' (first | with_reducible rfl | assumption | omega | (apply Eq.symm; assumption) | (simp only [hMe]; omega) | (exact lenI_nn _) | trivial | (refine hInv _ ?_) | (refine hInv _ _ ?_) | (refine hInv _ _ _ ?_) | (refine hInv _ _ _ _ ?_) | (refine hE0 _ ?_) | (refine hE0 _ _ ?_) | (refine hE0 _ _ _ ?_) | (refine hE0 _ _ _ _ ?_) | (refine hR _ ?_) | (refine hR _ _ ?_) | (refine hR _ _ _ ?_) | (refine hR _ _ _ _ ?_) | refine ⟨?_, ?_⟩ | intro _))
    · rw [hb] at hI
      have hb2 := hb
      unfold idxAny_p at hb2
      simp only [ltB_t.2 hlt, hb2, hin, ei, hMe, simpsL, implies_true, forall_const, if_true, if_false, reduceCtorEq] at hI ⊢
      (repeat' (first | with_reducible rfl | assumption | omega | (apply Eq.symm; assumption) | (simp only [hMe]; omega) | (exact lenI_nn _) | trivial | (refine hInv _ ?_) | (refine hInv _ _ ?_) | (refine hInv _ _ _ ?_) | (refine hInv _ _ _ _ ?_) | (refine hE0 _ ?_) | (refine hE0 _ _ ?_) | (refine hE0 _ _ _ ?_) | (refine hE0 _ _ _ _ ?_) | (refine hR _ ?_) | (refine hR _ _ ?_) | (refine hR _ _ _ ?_) | (refine hR _ _ _ _ ?_) | refine ⟨?_, ?_⟩ | intro _))
  · rw [drop_all (by omega)] at hI
    simp only [idxG] at hI
    rw [ltB_f.2 (Int.not_lt.1 hlt)]
    simp only [simpsL, implies_true, forall_const, if_true, if_false, reduceCtorEq]
    (repeat' (first | with_reducible rfl | assumption | omega | (apply Eq.symm; assumption) | (simp only [hMe]; omega) | (exact lenI_nn _) | trivial | (refine hInv _ ?_) | (refine hInv _ _ ?_) | (refine hInv _ _ _ ?_) | (refine hInv _ _ _ _ ?_) | (refine hE0 _ ?_) | (refine hE0 _ _ ?_) | (refine hE0 _ _ _ ?_) | (refine hE0 _ _ _ _ ?_) | (refine hR _ ?_) | (refine hR _ _ ?_) | (refine hR _ _ _ ?_) | (refine hR _ _ _ _ ?_) | refine ⟨?_, ?_⟩ | intro _))
theorem summ_idxAny : SummOK Try.prog (loopAt Try.f103 2) S_idxAny :=
  summN_ok (L := []) (fuel := 100) tabOK fsOK_fnAny1 (mkCall fsOK_fnAny1 specsOK_copiedS fnsOK) (fun C => mkDraw fsOK_fnAny1 (mkCall fsOK_fnAny1 specsOK_copiedS fnsOK) C) loopsOK_nil Inv_idxAny M_idxAny
    (fun x hp hw => by
      obtain ⟨n, len, i, r, c⟩ := x
      have hp : i = 0 ∧ len = lenI n ∧ allR n c := hp
      have hw_n := wfL_view hw 0 rfl
      have hw_len := wfL_int hw 7 rfl
      have hw_i := wfL_int hw 8 rfl
      obtain ⟨rfl, rfl, _⟩ := hp
      exact ⟨⟨rfl, rfl, rfl⟩, ⟨by omega, lenI_nn _⟩, rfl⟩)
    (body_idxAny_ok)
noncomputable def fns_idxAny : Fns := (103, Try.f103, [(2, S_idxAny)]) :: fns
theorem fn_idxAny : FnOK Try.prog 103 Try.f103 [(2, S_idxAny)] := fnOK_loops Try.func103 (fun vs w => Try.call103 vs w) (by kernel_rfl) fun k S h => by
  simp only [List.mem_cons, Prod.mk.injEq, List.not_mem_nil, or_false] at h
  obtain ⟨rfl, rfl⟩ := h
  exact summ_idxAny
theorem fns_idxAnyOK : FnsOK Try.prog fns_idxAny := fnsOK_cons fn_idxAny fnsOK
noncomputable def idxAnyS : List AV → OV := fun args => match args with | [.view [] (.list .bool) n, .fn (.func 94) [] [.vptr [] [.int .i64 c]]] => some ([allR n c], .int .i64 (idxAny_f c n)) | _ => none
theorem idxAny_eq (c : Int) (n : List (den (.list .bool))) : acall tab fs_fnAny1 specs_copiedS fns_idxAny 100 20 103 [.view [] (.list .bool) n, .fn (.func 94) [] [.vptr [] [.int .i64 c]]] [] (fun o mm _ _ => resN (.any) mm o = .ret (.int .i64 (idxAny_f c n))) =
  (eqDr n (needr (AV.fn (Fn.func 94) ([]) (AV.vptr [] (AV.int IntKind.i64 c :: []) :: [])) (eqIr (lenI n) (eqIr 0 (((0 : Int) = 0 ∧ lenI n = lenI n ∧ allR n c) ∧ ((∀
    (y : X_idxAny), (y.1 = n ∧ y.2.1 = lenI n ∧ y.2.2.2.2 = c) ∧ idxAny_f y.2.2.2.2 y.1 = -1 → AOut.ret (AV.int IntKind.i64 (-1)) = AOut.ret (AV.int IntKind.i64 (idxAny_f
    c n))) ∧ True) ∧ ∀ (y : X_idxAny), (y.1 = n ∧ y.2.1 = lenI n ∧ y.2.2.2.2 = c) ∧ y.2.2.2.1 = idxAny_f y.2.2.2.2 y.1 → AOut.ret (AV.int IntKind.i64 y.2.2.2.1) = AOut.ret
    (AV.int IntKind.i64 (idxAny_f c n))))))) := by kernel_rfl
theorem idxAny_ok : SpecOK Try.prog 103 (fspecS (pureN [.sl (.list .bool)] idxAnyS)) := pureN_ok (mkCall fsOK_fnAny1 specsOK_copiedS fns_idxAnyOK) (.any) (fun vs w => Try.call103 vs w) fun args ps v h hp hw => by
  unfold idxAnyS at h
  split at h
  · cases h
    rename_i c n
    rw [idxAny_eq]
    refine ⟨?_⟩
    simp only [allP_cons, allP_nil, and_true] at hp
    simp only [wfAL, wfA, wfS, wfM, wfB, and_true, true_and, wfT_int, wfT_str, wfT_bool, wfT_prod] at hw
    simp only [simpsL, implies_true, forall_const, if_true, if_false, reduceCtorEq]
    (repeat' (first | with_reducible rfl | assumption | omega | trivial | (rintro y ⟨hk, hx⟩; simp_all; done) | refine ⟨?_, ?_⟩ | intro _))
  · cases h
noncomputable def FF_idxAny : FSpec := pureN [.sl (.list .bool)] idxAnyS
theorem FFok_idxAny : SpecOK Try.prog 103 (fspecS FF_idxAny) := idxAny_ok
noncomputable def fs_idxAny : FS := (103, FF_idxAny) :: fs_fnAny1
theorem fsOK_idxAny : FSOK Try.prog fs_idxAny := fsOK_cons FFok_idxAny fsOK_fnAny1
noncomputable def fnAnyS : List AV → OV := fun args => match args with | [.int .i64 i, .vptr [] [.view [] (.list .bool) l]] => some ([allR l i], .bool (anyAt l i)) | _ => none
theorem fnAny_eq (i : Int) (l : List (List Bool)) : acall tab fs_idxAny specs_copiedS fns 100 20 92 [.int .i64 i, .vptr [] [.view [] (.list .bool) l]] [] (fun o mm _ _ => resN (.any) mm o = .ret (.bool (anyAt l i))) =
  (need (allR l i) (AOut.ret (AV.bool (leB 0 (idxAny_f i l))) = AOut.ret (AV.bool (anyAt l i)))) := by kernel_rfl
theorem fnAny_ok : SpecOK Try.prog 92 (fspecS (pureN [] fnAnyS)) := pureN_ok (mkCall fsOK_idxAny specsOK_copiedS fnsOK) (.any) (fun vs w => Try.call92 vs w) fun args ps v h hp hw => by
  unfold fnAnyS at h
  split at h
  · cases h
    rename_i i l
    rw [fnAny_eq]
    refine ⟨?_⟩
    simp only [allP_cons, allP_nil, and_true] at hp
    simp only [wfAL, wfA, wfS, wfM, wfB, and_true, true_and, wfT_int, wfT_str, wfT_bool, wfT_prod] at hw
    have e := idxAny_any i l
    simp only [leB] at e
    simp only [simpsL, implies_true, forall_const, if_true, if_false, reduceCtorEq, hp]
    rw [e]
    rfl
  · cases h
noncomputable def FF_fnAny : FSpec := pureN [] fnAnyS
theorem FFok_fnAny : SpecOK Try.prog 92 (fspecS FF_fnAny) := fnAny_ok
noncomputable def fs_fnAny : FS := (92, FF_fnAny) :: fs_idxAny
theorem fsOK_fnAny : FSOK Try.prog fs_fnAny := fsOK_cons FFok_fnAny fsOK_idxAny
abbrev X_fillYes := Int × Int × List (den .str) × List (den (.list (.int .i64))) × Int × List (den .bool)
def sh_fillYes : X_fillYes → St := fun x => match x with | (n, i, nm, rows, over, xs) => ⟨setL (rep .bad 26) [(14, .int .i64 n), (15, .int .i64 i), (1, .fn (.func 80) [] []), (5, .own 1)], [.var [.view [] .str nm, .view [] (.list (.int .i64)) rows, .int .i64 over], .row 4 .bool xs []], [1], [1]⟩
def sx_fillYes : AExit → X_fillYes → St := fun _ => sh_fillYes
def nx_fillYes (σ : St) : X_fillYes := (gI σ 14, gI σ 15, cV .str σ 0 0, cV (.list (.int .i64)) σ 0 1, cI σ 0 2, rV .bool σ 1)
def Pre_fillYes : X_fillYes → Prop := fun x => match x with | (n, i, nm, rows, over, xs) => i = 0 ∧ n = lenI rows ∧ lenI xs = lenI rows ∧ True
def E0_fillYes : X_fillYes → X_fillYes → Prop := fun x y => match x, y with | (n0, i0, nm0, rows0, over0, xs0), (n, i, nm, rows, over, xs) => (n = n0 ∧ nm = nm0 ∧ rows = rows0 ∧ over = over0) ∧ (xs = yesV (lenI rows))
def R_fillYes : X_fillYes → X_fillYes → Prop := fun x y => match x, y with | (n0, i0, nm0, rows0, over0, xs0), (n, i, nm, rows, over, xs) => (n = n0 ∧ nm = nm0 ∧ rows = rows0 ∧ over = over0) ∧ (False)
def D_fillYes : X_fillYes → LEnds X_fillYes := fun x => ⟨[(0, E0_fillYes x)], R_fillYes x⟩
noncomputable def S_fillYes : Summ := summN sh_fillYes sx_fillYes nx_fillYes Pre_fillYes D_fillYes
def Inv_fillYes : X_fillYes → X_fillYes → Prop := fun x y => match x, y with | (n0, i0, nm0, rows0, over0, xs0), (n, i, nm, rows, over, xs) => (n = n0 ∧ nm = nm0 ∧ rows = rows0 ∧ over = over0) ∧ ((0 ≤ i ∧ i ≤ n) ∧ lenI xs = lenI rows ∧ ∀ j, 0 ≤ j → j < i → nth .bool xs j = true)
def M_fillYes : X_fillYes → X_fillYes → Nat := fun x y => match x, y with | (n0, i0, nm0, rows0, over0, xs0), (n, i, nm, rows, over, xs) => (n - i).toNat
theorem body_fillYes (Inv : X_fillYes → Prop) (meas : X_fillYes → Nat) (nn : Nat) (EE0 RR : X_fillYes → Prop) (n : Int) (i : Int) (nm : List (den .str)) (rows : List (den (.list (.int .i64)))) (over : Int) (xs : List (den .bool)) : awp tab fs_fnAny (acall tab fs_fnAny specs_copiedS fns 100 20) [] 100 (loopAt Try.f79 3) (bodyN sh_fillYes sx_fillYes nx_fillYes Inv meas nn ⟨[(0, EE0)], RR⟩) (sh_fillYes (n, i, nm, rows, over, xs)) =
  (ifB (ltB i n) (need (inI i (lenI xs)) (need (inI i (lenI xs)) (needr (AV.fn (Fn.func 80) ([]) ([])) (eqIr n (eqIr (addW IntKind.i64 i 1) (eqDr nm (eqDr rows (eqIr
    over (eqDr (setI xs i true) (Inv (n, addW IntKind.i64 i 1, nm, rows, over, setI xs i true) ∧ meas (n, addW IntKind.i64 i 1, nm, rows, over, setI xs i true) < nn))))))))))
    (needr (AV.fn (Fn.func 80) ([]) ([])) (eqIr n (eqIr i (eqDr nm (eqDr rows (eqIr over (eqDr xs (EE0 (n, i, nm, rows, over, xs)))))))))) := by kernel_rfl
theorem body_fillYes_ok : ∀ x y, Pre_fillYes x → Inv_fillYes x y → wfS (sh_fillYes y) → Hd (awp tab fs_fnAny (acall tab fs_fnAny specs_copiedS fns 100 20) [] 100 (loopAt Try.f79 3) (bodyN sh_fillYes sx_fillYes nx_fillYes (Inv_fillYes x) (M_fillYes x) (M_fillYes x y) (D_fillYes x)) (sh_fillYes y)) := by
  rintro ⟨n0, i0, nm0, rows0, over0, xs0⟩ ⟨n, i, nm, rows, over, xs⟩ hp hI hw
  obtain ⟨⟨rfl, rfl, rfl, rfl⟩, hI⟩ := hI
  have hw_n := wfL_int hw 14 rfl
  have hw_i := wfL_int hw 15 rfl
  have hw_nm := wfC_view hw 0 0 rfl
  have hw_rows := wfC_view hw 0 1 rfl
  have hw_over := wfC_int hw 0 2 rfl
  have hw_xs := wfR_row hw 1 rfl
  have hp : i0 = 0 ∧ n = lenI rows ∧ lenI xs0 = lenI rows ∧ True := hp
  unfold D_fillYes
  rw [body_fillYes]
  refine ⟨?_⟩
  have hInv : ∀ (i : Int) (xs : List (den .bool)), ((0 ≤ i ∧ i ≤ n) ∧ lenI xs = lenI rows ∧ ∀ j, 0 ≤ j → j < i → nth .bool xs j = true) → Inv_fillYes (n, i0, nm, rows, over, xs0) (n, i, nm, rows, over, xs) := fun _ _ h => ⟨⟨rfl, rfl, rfl, rfl⟩, h⟩
  generalize hIe : Inv_fillYes (n, i0, nm, rows, over, xs0) = Inv at hInv ⊢
  have hMe : ∀ (i : Int) (xs : List (den .bool)), M_fillYes (n, i0, nm, rows, over, xs0) (n, i, nm, rows, over, xs) = (n - i).toNat := fun _ _ => rfl
  generalize M_fillYes (n, i0, nm, rows, over, xs0) = Me at hMe ⊢
  have hE0 : ∀ (i : Int) (xs : List (den .bool)), (xs = yesV (lenI rows)) → E0_fillYes (n, i0, nm, rows, over, xs0) (n, i, nm, rows, over, xs) := fun _ _ h => ⟨⟨rfl, rfl, rfl, rfl⟩, h⟩
  generalize E0_fillYes (n, i0, nm, rows, over, xs0) = EE0 at hE0 ⊢
  have hR : ∀ (i : Int) (xs : List (den .bool)), (False) → R_fillYes (n, i0, nm, rows, over, xs0) (n, i, nm, rows, over, xs) := fun _ _ h => ⟨⟨rfl, rfl, rfl, rfl⟩, h⟩
  generalize R_fillYes (n, i0, nm, rows, over, xs0) = RR at hR ⊢
  obtain ⟨hi, hl, hI⟩ := hI
  obtain ⟨p1, rfl, p3, p4⟩ := hp
  by_cases hlt : i < lenI rows
  · have hlen := wfT_len hw_rows
    have ei : addW .i64 i 1 = i + 1 := addW64 (by omega) (by omega)
    have hs := set_step (b := true) (f := fun j => true) hi.1 (by rw [hl]; exact hlt) rfl hI
    have hneed : True := trivial
    rw [ltB_t.2 hlt]
    simp only [simpsL, implies_true, forall_const, if_true, if_false, reduceCtorEq, hMe, ei, hl, hneed]
    repeat' (first | with_reducible rfl | assumption | omega | (exact hInv _ _ ⟨by omega, hs.1.trans hl, hs.2⟩) | refine ⟨?_, ?_⟩ | intro _)
  · rw [ltB_f.2 (Int.not_lt.1 hlt)]
    simp only [simpsL, implies_true, forall_const, if_true, if_false, reduceCtorEq]
    exact hE0 _ _ (tab_ext hl fun j h0 h1 => hI j h0 (by omega))
theorem summ_fillYes : SummOK Try.prog (loopAt Try.f79 3) S_fillYes :=
  summN_ok (L := []) (fuel := 100) tabOK fsOK_fnAny (mkCall fsOK_fnAny specsOK_copiedS fnsOK) (fun C => mkDraw fsOK_fnAny (mkCall fsOK_fnAny specsOK_copiedS fnsOK) C) loopsOK_nil Inv_fillYes M_fillYes
    (fun x hp hw => by
      obtain ⟨n, i, nm, rows, over, xs⟩ := x
      have hp : i = 0 ∧ n = lenI rows ∧ lenI xs = lenI rows ∧ True := hp
      have hw_n := wfL_int hw 14 rfl
      have hw_i := wfL_int hw 15 rfl
      have hw_nm := wfC_view hw 0 0 rfl
      have hw_rows := wfC_view hw 0 1 rfl
      have hw_over := wfC_int hw 0 2 rfl
      have hw_xs := wfR_row hw 1 rfl
      obtain ⟨rfl, rfl, h, _⟩ := hp
      exact ⟨⟨rfl, rfl, rfl, rfl⟩, ⟨by omega, lenI_nn _⟩, h, fun j _ _ => by omega⟩)
    (body_fillYes_ok)
noncomputable def fns_fillYes : Fns := (79, Try.f79, [(3, S_fillYes)]) :: fns
theorem fn_fillYes : FnOK Try.prog 79 Try.f79 [(3, S_fillYes)] := fnOK_loops Try.func79 (fun vs w => Try.call79 vs w) (by kernel_rfl) fun k S h => by
  simp only [List.mem_cons, Prod.mk.injEq, List.not_mem_nil, or_false] at h
  obtain ⟨rfl, rfl⟩ := h
  exact summ_fillYes
theorem fns_fillYesOK : FnsOK Try.prog fns_fillYes := fnsOK_cons fn_fillYes fnsOK
noncomputable def fillYesS : List AV → List Blk → AK → Prop := fun args m K => match args, m with | [.ptr 0 0, .fn (.func 80) [] []], [.var [.view [] .str nm, .view [] (.list (.int .i64)) rows, .int .i64 over]] => need (oneR (lenI rows)) (K (.ret (.view [] .bool (yesV (lenI rows)))) [.var [.view [] .str nm, .view [] (.list (.int .i64)) rows, .int .i64 over]] [] []) | _, _ => False
theorem fillYes_eq (K : AK) (nm : List (List UInt8)) (rows : List (List Int)) (over : Int) : acall tab fs_fnAny specs_copiedS fns_fillYes 100 20 79 [.ptr 0 0, .fn (.func 80) [] []] [.var [.view [] .str nm, .view [] (.list (.int .i64)) rows, .int .i64 over]] (frzK (mlen [.var [.view [] .str nm, .view [] (.list (.int .i64)) rows, .int .i64 over]]) (.any) [] [] K) =
  (eqIr (lenI rows) (need (geZ (lenI rows)) (need (fitA (lenI rows)) (needr (AV.fn (Fn.func 80) ([]) ([])) (eqIr (lenI (repI (lenI rows) false)) (eqIr 0 (eqDr nm (eqDr
    rows (eqIr over (eqDr (repI (lenI rows) false) (((0 : Int) = 0 ∧ lenI (repI (lenI rows) false) = lenI rows ∧ lenI (repI (lenI rows) false) = lenI rows ∧ True) ∧
    ((∀ (y : X_fillYes), (y.1 = lenI (repI (lenI rows) false) ∧ y.2.2.1 = nm ∧ y.2.2.2.1 = rows ∧ y.2.2.2.2.1 = over) ∧ y.2.2.2.2.2 = yesV (lenI y.2.2.2.1) → K (AOut.ret
    (AV.view [] Ty.bool y.2.2.2.2.2)) (Blk.var (AV.view [] Ty.str y.2.2.1 :: AV.view [] (Ty.int IntKind.i64).list y.2.2.2.1 :: AV.int IntKind.i64 y.2.2.2.2.1 :: [])
    :: []) [] []) ∧ True) ∧ ∀ (y : X_fillYes), (y.1 = lenI (repI (lenI rows) false) ∧ y.2.2.1 = nm ∧ y.2.2.2.1 = rows ∧ y.2.2.2.2.1 = over) ∧ False → K (AOut.ret AV.bad)
    (Blk.var (AV.view [] Ty.str y.2.2.1 :: AV.view [] (Ty.int IntKind.i64).list y.2.2.2.1 :: AV.int IntKind.i64 y.2.2.2.2.1 :: []) :: []) [] []))))))))))) := by kernel_rfl
theorem fillYes_ok : SpecOK Try.prog 79 fillYesS := specOKF_of (mkCall fsOK_fnAny specsOK_copiedS fns_fillYesOK) (.any) [] [] (fun vs w => Try.call79 vs w) fun args m K h hw hwm => by
  unfold fillYesS at h
  split at h
  · rename_i nm rows over
    rw [fillYes_eq]
    refine ⟨?_⟩
    simp only [wfAL, wfA, wfS, wfM, wfB, and_true, true_and, wfT_int, wfT_str, wfT_bool, wfT_prod] at hw hwm
    obtain ⟨h1, h⟩ := h
    have hr := lenI_nn rows
    have h10 := h1
    unfold oneR at h10
    have f1 : fitA (lenI rows) := by unfold fitA; omega
    have f2 : lenI (repI (lenI rows) false) = lenI rows := by unfold repI lenI; simp
    simp only [simpsL, implies_true, forall_const, if_true, if_false, reduceCtorEq, f1, f2]
    refine ⟨hr, fun y hy => ?_⟩
    obtain ⟨n, i, nm, rows, over, xs⟩ := y
    dsimp only at hy ⊢
    obtain ⟨⟨rfl, rfl, rfl, rfl⟩, rfl⟩ := hy
    exact h
  · exact h.elim
noncomputable def SP_fillYes : List AV → List Blk → AK → Prop := (frameS fillYesS)
theorem SPok_fillYes : SpecOK Try.prog 79 SP_fillYes := (frame_ok fillYes_ok)
noncomputable def specs_fillYes : Specs := (79, SP_fillYes) :: specs_copiedS
theorem specsOK_fillYes : SpecsOK Try.prog specs_fillYes := specsOK_cons SPok_fillYes specsOK_copiedS
abbrev X_fillNot := Int × Int × List (den .str) × List (den (.list (.int .i64))) × Int × List (den .bool) × List (den .bool)
def sh_fillNot : X_fillNot → St := fun x => match x with | (n, i, nm, rows, over, p, xs) => ⟨setL (rep .bad 26) [(14, .int .i64 n), (15, .int .i64 i), (1, .fn (.func 91) [] [.ptr 1 0]), (5, .own 2)], [.var [.view [] .str nm, .view [] (.list (.int .i64)) rows, .int .i64 over], .var [.view [] .bool p], .row 4 .bool xs []], [2], [2]⟩
def sx_fillNot : AExit → X_fillNot → St := fun _ => sh_fillNot
def nx_fillNot (σ : St) : X_fillNot := (gI σ 14, gI σ 15, cV .str σ 0 0, cV (.list (.int .i64)) σ 0 1, cI σ 0 2, cV .bool σ 1 0, rV .bool σ 2)
def Pre_fillNot : X_fillNot → Prop := fun x => match x with | (n, i, nm, rows, over, p, xs) => i = 0 ∧ n = lenI rows ∧ lenI xs = lenI rows ∧ lenI p = lenI rows
def E0_fillNot : X_fillNot → X_fillNot → Prop := fun x y => match x, y with | (n0, i0, nm0, rows0, over0, p0, xs0), (n, i, nm, rows, over, p, xs) => (n = n0 ∧ nm = nm0 ∧ rows = rows0 ∧ over = over0 ∧ p = p0) ∧ (xs = notV (lenI rows) p)
def R_fillNot : X_fillNot → X_fillNot → Prop := fun x y => match x, y with | (n0, i0, nm0, rows0, over0, p0, xs0), (n, i, nm, rows, over, p, xs) => (n = n0 ∧ nm = nm0 ∧ rows = rows0 ∧ over = over0 ∧ p = p0) ∧ (False)
def D_fillNot : X_fillNot → LEnds X_fillNot := fun x => ⟨[(0, E0_fillNot x)], R_fillNot x⟩
noncomputable def S_fillNot : Summ := summN sh_fillNot sx_fillNot nx_fillNot Pre_fillNot D_fillNot
def Inv_fillNot : X_fillNot → X_fillNot → Prop := fun x y => match x, y with | (n0, i0, nm0, rows0, over0, p0, xs0), (n, i, nm, rows, over, p, xs) => (n = n0 ∧ nm = nm0 ∧ rows = rows0 ∧ over = over0 ∧ p = p0) ∧ ((0 ≤ i ∧ i ≤ n) ∧ lenI xs = lenI rows ∧ ∀ j, 0 ≤ j → j < i → nth .bool xs j = (!(nth .bool p j)))
def M_fillNot : X_fillNot → X_fillNot → Nat := fun x y => match x, y with | (n0, i0, nm0, rows0, over0, p0, xs0), (n, i, nm, rows, over, p, xs) => (n - i).toNat
theorem body_fillNot (Inv : X_fillNot → Prop) (meas : X_fillNot → Nat) (nn : Nat) (EE0 RR : X_fillNot → Prop) (n : Int) (i : Int) (nm : List (den .str)) (rows : List (den (.list (.int .i64)))) (over : Int) (p : List (den .bool)) (xs : List (den .bool)) : awp tab fs_fnAny (acall tab fs_fnAny specs_fillYes fns 100 20) [] 100 (loopAt Try.f79 3) (bodyN sh_fillNot sx_fillNot nx_fillNot Inv meas nn ⟨[(0, EE0)], RR⟩) (sh_fillNot (n, i, nm, rows, over, p, xs)) =
  (ifB (ltB i n) (need (inI i (lenI p)) (need (inI i (lenI xs)) (need (inI i (lenI xs)) (needr (AV.fn (Fn.func 91) ([]) (AV.ptr 1 0 :: [])) (eqIr n (eqIr (addW IntKind.i64
    i 1) (eqDr nm (eqDr rows (eqIr over (eqDr p (eqDr (setI xs i (notB (nth Ty.bool p i))) (Inv (n, addW IntKind.i64 i 1, nm, rows, over, p, setI xs i (notB (nth Ty.bool
    p i))) ∧ meas (n, addW IntKind.i64 i 1, nm, rows, over, p, setI xs i (notB (nth Ty.bool p i))) < nn)))))))))))) (needr (AV.fn (Fn.func 91) ([]) (AV.ptr 1 0 :: []))
    (eqIr n (eqIr i (eqDr nm (eqDr rows (eqIr over (eqDr p (eqDr xs (EE0 (n, i, nm, rows, over, p, xs))))))))))) := by kernel_rfl
theorem body_fillNot_ok : ∀ x y, Pre_fillNot x → Inv_fillNot x y → wfS (sh_fillNot y) → Hd (awp tab fs_fnAny (acall tab fs_fnAny specs_fillYes fns 100 20) [] 100 (loopAt Try.f79 3) (bodyN sh_fillNot sx_fillNot nx_fillNot (Inv_fillNot x) (M_fillNot x) (M_fillNot x y) (D_fillNot x)) (sh_fillNot y)) := by
  rintro ⟨n0, i0, nm0, rows0, over0, p0, xs0⟩ ⟨n, i, nm, rows, over, p, xs⟩ hp hI hw
  obtain ⟨⟨rfl, rfl, rfl, rfl, rfl⟩, hI⟩ := hI
  have hw_n := wfL_int hw 14 rfl
  have hw_i := wfL_int hw 15 rfl
  have hw_nm := wfC_view hw 0 0 rfl
  have hw_rows := wfC_view hw 0 1 rfl
  have hw_over := wfC_int hw 0 2 rfl
  have hw_p := wfC_view hw 1 0 rfl
  have hw_xs := wfR_row hw 2 rfl
  have hp : i0 = 0 ∧ n = lenI rows ∧ lenI xs0 = lenI rows ∧ lenI p = lenI rows := hp
  unfold D_fillNot
  rw [body_fillNot]
  refine ⟨?_⟩
  have hInv : ∀ (i : Int) (xs : List (den .bool)), ((0 ≤ i ∧ i ≤ n) ∧ lenI xs = lenI rows ∧ ∀ j, 0 ≤ j → j < i → nth .bool xs j = (!(nth .bool p j))) → Inv_fillNot (n, i0, nm, rows, over, p, xs0) (n, i, nm, rows, over, p, xs) := fun _ _ h => ⟨⟨rfl, rfl, rfl, rfl, rfl⟩, h⟩
  generalize hIe : Inv_fillNot (n, i0, nm, rows, over, p, xs0) = Inv at hInv ⊢
  have hMe : ∀ (i : Int) (xs : List (den .bool)), M_fillNot (n, i0, nm, rows, over, p, xs0) (n, i, nm, rows, over, p, xs) = (n - i).toNat := fun _ _ => rfl
  generalize M_fillNot (n, i0, nm, rows, over, p, xs0) = Me at hMe ⊢
  have hE0 : ∀ (i : Int) (xs : List (den .bool)), (xs = notV (lenI rows) p) → E0_fillNot (n, i0, nm, rows, over, p, xs0) (n, i, nm, rows, over, p, xs) := fun _ _ h => ⟨⟨rfl, rfl, rfl, rfl, rfl⟩, h⟩
  generalize E0_fillNot (n, i0, nm, rows, over, p, xs0) = EE0 at hE0 ⊢
  have hR : ∀ (i : Int) (xs : List (den .bool)), (False) → R_fillNot (n, i0, nm, rows, over, p, xs0) (n, i, nm, rows, over, p, xs) := fun _ _ h => ⟨⟨rfl, rfl, rfl, rfl, rfl⟩, h⟩
  generalize R_fillNot (n, i0, nm, rows, over, p, xs0) = RR at hR ⊢
  obtain ⟨hi, hl, hI⟩ := hI
  obtain ⟨p1, rfl, p3, p4⟩ := hp
  by_cases hlt : i < lenI rows
  · have hlen := wfT_len hw_rows
    have ei : addW .i64 i 1 = i + 1 := addW64 (by omega) (by omega)
    have hs := set_step (b := notB (nth .bool p i)) (f := fun j => (!(nth .bool p j))) hi.1 (by rw [hl]; exact hlt) rfl hI
    have hneed : inI i (lenI p) := by rw [p4]; exact ⟨hi.1, hlt⟩
    rw [ltB_t.2 hlt]
    simp only [simpsL, implies_true, forall_const, if_true, if_false, reduceCtorEq, hMe, ei, hl, hneed]
    repeat' (first | with_reducible rfl | assumption | omega | (exact hInv _ _ ⟨by omega, hs.1.trans hl, hs.2⟩) | refine ⟨?_, ?_⟩ | intro _)
  · rw [ltB_f.2 (Int.not_lt.1 hlt)]
    simp only [simpsL, implies_true, forall_const, if_true, if_false, reduceCtorEq]
    exact hE0 _ _ (tab_ext hl fun j h0 h1 => hI j h0 (by omega))
theorem summ_fillNot : SummOK Try.prog (loopAt Try.f79 3) S_fillNot :=
  summN_ok (L := []) (fuel := 100) tabOK fsOK_fnAny (mkCall fsOK_fnAny specsOK_fillYes fnsOK) (fun C => mkDraw fsOK_fnAny (mkCall fsOK_fnAny specsOK_fillYes fnsOK) C) loopsOK_nil Inv_fillNot M_fillNot
    (fun x hp hw => by
      obtain ⟨n, i, nm, rows, over, p, xs⟩ := x
      have hp : i = 0 ∧ n = lenI rows ∧ lenI xs = lenI rows ∧ lenI p = lenI rows := hp
      have hw_n := wfL_int hw 14 rfl
      have hw_i := wfL_int hw 15 rfl
      have hw_nm := wfC_view hw 0 0 rfl
      have hw_rows := wfC_view hw 0 1 rfl
      have hw_over := wfC_int hw 0 2 rfl
      have hw_p := wfC_view hw 1 0 rfl
      have hw_xs := wfR_row hw 2 rfl
      obtain ⟨rfl, rfl, h, _⟩ := hp
      exact ⟨⟨rfl, rfl, rfl, rfl, rfl⟩, ⟨by omega, lenI_nn _⟩, h, fun j _ _ => by omega⟩)
    (body_fillNot_ok)
noncomputable def fns_fillNot : Fns := (79, Try.f79, [(3, S_fillNot)]) :: fns
theorem fn_fillNot : FnOK Try.prog 79 Try.f79 [(3, S_fillNot)] := fnOK_loops Try.func79 (fun vs w => Try.call79 vs w) (by kernel_rfl) fun k S h => by
  simp only [List.mem_cons, Prod.mk.injEq, List.not_mem_nil, or_false] at h
  obtain ⟨rfl, rfl⟩ := h
  exact summ_fillNot
theorem fns_fillNotOK : FnsOK Try.prog fns_fillNot := fnsOK_cons fn_fillNot fnsOK
noncomputable def fillNotS : List AV → List Blk → AK → Prop := fun args m K => match args, m with | [.ptr 0 0, .fn (.func 91) [] [.ptr 1 0]], [.var [.view [] .str nm, .view [] (.list (.int .i64)) rows, .int .i64 over], .var [.view [] .bool p]] => need (oneR (lenI rows)) (need (lenI p = lenI rows) (K (.ret (.view [] .bool (notV (lenI rows) p))) [.var [.view [] .str nm, .view [] (.list (.int .i64)) rows, .int .i64 over], .var [.view [] .bool p]] [] [])) | _, _ => False
theorem fillNot_eq (K : AK) (nm : List (List UInt8)) (rows : List (List Int)) (over : Int) (p : List Bool) : acall tab fs_fnAny specs_copiedS fns_fillNot 100 20 79 [.ptr 0 0, .fn (.func 91) [] [.ptr 1 0]] [.var [.view [] .str nm, .view [] (.list (.int .i64)) rows, .int .i64 over], .var [.view [] .bool p]] (frzK (mlen [.var [.view [] .str nm, .view [] (.list (.int .i64)) rows, .int .i64 over], .var [.view [] .bool p]]) (.any) [] [] K) =
  (eqIr (lenI rows) (need (geZ (lenI rows)) (need (fitA (lenI rows)) (needr (AV.fn (Fn.func 91) ([]) (AV.ptr 1 0 :: [])) (eqIr (lenI (repI (lenI rows) false)) (eqIr
    0 (eqDr nm (eqDr rows (eqIr over (eqDr p (eqDr (repI (lenI rows) false) (((0 : Int) = 0 ∧ lenI (repI (lenI rows) false) = lenI rows ∧ lenI (repI (lenI rows) false)
    = lenI rows ∧ lenI p = lenI rows) ∧ ((∀ (y : X_fillNot), (y.1 = lenI (repI (lenI rows) false) ∧ y.2.2.1 = nm ∧ y.2.2.2.1 = rows ∧ y.2.2.2.2.1 = over ∧ y.2.2.2.2.2.1
    = p) ∧ y.2.2.2.2.2.2 = notV (lenI y.2.2.2.1) y.2.2.2.2.2.1 → K (AOut.ret (AV.view [] Ty.bool y.2.2.2.2.2.2)) (Blk.var (AV.view [] Ty.str y.2.2.1 :: AV.view [] (Ty.int
    IntKind.i64).list y.2.2.2.1 :: AV.int IntKind.i64 y.2.2.2.2.1 :: []) :: Blk.var (AV.view [] Ty.bool y.2.2.2.2.2.1 :: []) :: []) [] []) ∧ True) ∧ ∀ (y : X_fillNot),
    (y.1 = lenI (repI (lenI rows) false) ∧ y.2.2.1 = nm ∧ y.2.2.2.1 = rows ∧ y.2.2.2.2.1 = over ∧ y.2.2.2.2.2.1 = p) ∧ False → K (AOut.ret AV.bad) (Blk.var (AV.view
    [] Ty.str y.2.2.1 :: AV.view [] (Ty.int IntKind.i64).list y.2.2.2.1 :: AV.int IntKind.i64 y.2.2.2.2.1 :: []) :: Blk.var (AV.view [] Ty.bool y.2.2.2.2.2.1 :: [])
    :: []) [] [])))))))))))) := by kernel_rfl
theorem fillNot_ok : SpecOK Try.prog 79 fillNotS := specOKF_of (mkCall fsOK_fnAny specsOK_copiedS fns_fillNotOK) (.any) [] [] (fun vs w => Try.call79 vs w) fun args m K h hw hwm => by
  unfold fillNotS at h
  split at h
  · rename_i nm rows over p
    rw [fillNot_eq]
    refine ⟨?_⟩
    simp only [wfAL, wfA, wfS, wfM, wfB, and_true, true_and, wfT_int, wfT_str, wfT_bool, wfT_prod] at hw hwm
    obtain ⟨h1, h2, h⟩ := h
    have hr := lenI_nn rows
    have h10 := h1
    unfold oneR at h10
    have f1 : fitA (lenI rows) := by unfold fitA; omega
    have f2 : lenI (repI (lenI rows) false) = lenI rows := by unfold repI lenI; simp
    simp only [simpsL, implies_true, forall_const, if_true, if_false, reduceCtorEq, f1, f2, h2]
    refine ⟨hr, fun y hy => ?_⟩
    obtain ⟨n, i, nm, rows, over, p, xs⟩ := y
    dsimp only at hy ⊢
    obtain ⟨⟨rfl, rfl, rfl, rfl, rfl⟩, rfl⟩ := hy
    exact h
  · exact h.elim
noncomputable def SP_fillNot : List AV → List Blk → AK → Prop := (altS 91 (frameS fillNotS) SP_fillYes)
theorem SPok_fillNot : SpecOK Try.prog 79 SP_fillNot := (altS_ok (frame_ok fillNot_ok) SPok_fillYes)
noncomputable def specs_fillNot : Specs := (79, SP_fillNot) :: specs_fillYes
theorem specsOK_fillNot : SpecsOK Try.prog specs_fillNot := specsOK_cons SPok_fillNot specsOK_fillYes
abbrev X_fillAny := Int × Int × List (den .str) × List (den (.list (.int .i64))) × Int × List (den (.list .bool)) × List (den .bool)
def sh_fillAny : X_fillAny → St := fun x => match x with | (n, i, nm, rows, over, l, xs) => ⟨setL (rep .bad 26) [(14, .int .i64 n), (15, .int .i64 i), (1, .fn (.func 92) [] [.ptr 1 0]), (5, .own 3)], [.var [.view [] .str nm, .view [] (.list (.int .i64)) rows, .int .i64 over], .var [.own 2], .row 76 (.list .bool) l [], .row 4 .bool xs []], [3], [3]⟩
def sx_fillAny : AExit → X_fillAny → St := fun _ => sh_fillAny
def nx_fillAny (σ : St) : X_fillAny := (gI σ 14, gI σ 15, cV .str σ 0 0, cV (.list (.int .i64)) σ 0 1, cI σ 0 2, rV (.list .bool) σ 2, rV .bool σ 3)
def Pre_fillAny : X_fillAny → Prop := fun x => match x with | (n, i, nm, rows, over, l, xs) => i = 0 ∧ n = lenI rows ∧ lenI xs = lenI rows ∧ sameR l (lenI rows)
def E0_fillAny : X_fillAny → X_fillAny → Prop := fun x y => match x, y with | (n0, i0, nm0, rows0, over0, l0, xs0), (n, i, nm, rows, over, l, xs) => (n = n0 ∧ nm = nm0 ∧ rows = rows0 ∧ over = over0 ∧ l = l0) ∧ (xs = anyV (lenI rows) l)
def R_fillAny : X_fillAny → X_fillAny → Prop := fun x y => match x, y with | (n0, i0, nm0, rows0, over0, l0, xs0), (n, i, nm, rows, over, l, xs) => (n = n0 ∧ nm = nm0 ∧ rows = rows0 ∧ over = over0 ∧ l = l0) ∧ (False)
def D_fillAny : X_fillAny → LEnds X_fillAny := fun x => ⟨[(0, E0_fillAny x)], R_fillAny x⟩
noncomputable def S_fillAny : Summ := summN sh_fillAny sx_fillAny nx_fillAny Pre_fillAny D_fillAny
def Inv_fillAny : X_fillAny → X_fillAny → Prop := fun x y => match x, y with | (n0, i0, nm0, rows0, over0, l0, xs0), (n, i, nm, rows, over, l, xs) => (n = n0 ∧ nm = nm0 ∧ rows = rows0 ∧ over = over0 ∧ l = l0) ∧ ((0 ≤ i ∧ i ≤ n) ∧ lenI xs = lenI rows ∧ ∀ j, 0 ≤ j → j < i → nth .bool xs j = (l.any fun p => nth .bool p j))
def M_fillAny : X_fillAny → X_fillAny → Nat := fun x y => match x, y with | (n0, i0, nm0, rows0, over0, l0, xs0), (n, i, nm, rows, over, l, xs) => (n - i).toNat
theorem body_fillAny (Inv : X_fillAny → Prop) (meas : X_fillAny → Nat) (nn : Nat) (EE0 RR : X_fillAny → Prop) (n : Int) (i : Int) (nm : List (den .str)) (rows : List (den (.list (.int .i64)))) (over : Int) (l : List (den (.list .bool))) (xs : List (den .bool)) : awp tab fs_fnAny (acall tab fs_fnAny specs_fillNot fns 100 20) [] 100 (loopAt Try.f79 3) (bodyN sh_fillAny sx_fillAny nx_fillAny Inv meas nn ⟨[(0, EE0)], RR⟩) (sh_fillAny (n, i, nm, rows, over, l, xs)) =
  (ifB (ltB i n) (need (allR l i) (need (inI i (lenI xs)) (need (inI i (lenI xs)) (needr (AV.fn (Fn.func 92) ([]) (AV.ptr 1 0 :: [])) (eqIr n (eqIr (addW IntKind.i64
    i 1) (eqDr nm (eqDr rows (eqIr over (eqDr l (eqDr (setI xs i (anyAt l i)) (Inv (n, addW IntKind.i64 i 1, nm, rows, over, l, setI xs i (anyAt l i)) ∧ meas (n, addW
    IntKind.i64 i 1, nm, rows, over, l, setI xs i (anyAt l i)) < nn)))))))))))) (needr (AV.fn (Fn.func 92) ([]) (AV.ptr 1 0 :: [])) (eqIr n (eqIr i (eqDr nm (eqDr rows
    (eqIr over (eqDr l (eqDr xs (EE0 (n, i, nm, rows, over, l, xs))))))))))) := by kernel_rfl
theorem body_fillAny_ok : ∀ x y, Pre_fillAny x → Inv_fillAny x y → wfS (sh_fillAny y) → Hd (awp tab fs_fnAny (acall tab fs_fnAny specs_fillNot fns 100 20) [] 100 (loopAt Try.f79 3) (bodyN sh_fillAny sx_fillAny nx_fillAny (Inv_fillAny x) (M_fillAny x) (M_fillAny x y) (D_fillAny x)) (sh_fillAny y)) := by
  rintro ⟨n0, i0, nm0, rows0, over0, l0, xs0⟩ ⟨n, i, nm, rows, over, l, xs⟩ hp hI hw
  obtain ⟨⟨rfl, rfl, rfl, rfl, rfl⟩, hI⟩ := hI
  have hw_n := wfL_int hw 14 rfl
  have hw_i := wfL_int hw 15 rfl
  have hw_nm := wfC_view hw 0 0 rfl
  have hw_rows := wfC_view hw 0 1 rfl
  have hw_over := wfC_int hw 0 2 rfl
  have hw_l := wfR_row hw 2 rfl
  have hw_xs := wfR_row hw 3 rfl
  have hp : i0 = 0 ∧ n = lenI rows ∧ lenI xs0 = lenI rows ∧ sameR l (lenI rows) := hp
  unfold D_fillAny
  rw [body_fillAny]
  refine ⟨?_⟩
  have hInv : ∀ (i : Int) (xs : List (den .bool)), ((0 ≤ i ∧ i ≤ n) ∧ lenI xs = lenI rows ∧ ∀ j, 0 ≤ j → j < i → nth .bool xs j = (l.any fun p => nth .bool p j)) → Inv_fillAny (n, i0, nm, rows, over, l, xs0) (n, i, nm, rows, over, l, xs) := fun _ _ h => ⟨⟨rfl, rfl, rfl, rfl, rfl⟩, h⟩
  generalize hIe : Inv_fillAny (n, i0, nm, rows, over, l, xs0) = Inv at hInv ⊢
  have hMe : ∀ (i : Int) (xs : List (den .bool)), M_fillAny (n, i0, nm, rows, over, l, xs0) (n, i, nm, rows, over, l, xs) = (n - i).toNat := fun _ _ => rfl
  generalize M_fillAny (n, i0, nm, rows, over, l, xs0) = Me at hMe ⊢
  have hE0 : ∀ (i : Int) (xs : List (den .bool)), (xs = anyV (lenI rows) l) → E0_fillAny (n, i0, nm, rows, over, l, xs0) (n, i, nm, rows, over, l, xs) := fun _ _ h => ⟨⟨rfl, rfl, rfl, rfl, rfl⟩, h⟩
  generalize E0_fillAny (n, i0, nm, rows, over, l, xs0) = EE0 at hE0 ⊢
  have hR : ∀ (i : Int) (xs : List (den .bool)), (False) → R_fillAny (n, i0, nm, rows, over, l, xs0) (n, i, nm, rows, over, l, xs) := fun _ _ h => ⟨⟨rfl, rfl, rfl, rfl, rfl⟩, h⟩
  generalize R_fillAny (n, i0, nm, rows, over, l, xs0) = RR at hR ⊢
  obtain ⟨hi, hl, hI⟩ := hI
  obtain ⟨p1, rfl, p3, p4⟩ := hp
  by_cases hlt : i < lenI rows
  · have hlen := wfT_len hw_rows
    have ei : addW .i64 i 1 = i + 1 := addW64 (by omega) (by omega)
    have hs := set_step (b := anyAt l i) (f := fun j => (l.any fun p => nth .bool p j)) hi.1 (by rw [hl]; exact hlt) rfl hI
    have hneed : allR l i := ⟨hi.1, fun p hp => by rw [p4 p hp]; exact hlt⟩
    rw [ltB_t.2 hlt]
    simp only [simpsL, implies_true, forall_const, if_true, if_false, reduceCtorEq, hMe, ei, hl, hneed]
    repeat' (first | with_reducible rfl | assumption | omega | (exact hInv _ _ ⟨by omega, hs.1.trans hl, hs.2⟩) | refine ⟨?_, ?_⟩ | intro _)
  · rw [ltB_f.2 (Int.not_lt.1 hlt)]
    simp only [simpsL, implies_true, forall_const, if_true, if_false, reduceCtorEq]
    exact hE0 _ _ (tab_ext hl fun j h0 h1 => hI j h0 (by omega))
theorem summ_fillAny : SummOK Try.prog (loopAt Try.f79 3) S_fillAny :=
  summN_ok (L := []) (fuel := 100) tabOK fsOK_fnAny (mkCall fsOK_fnAny specsOK_fillNot fnsOK) (fun C => mkDraw fsOK_fnAny (mkCall fsOK_fnAny specsOK_fillNot fnsOK) C) loopsOK_nil Inv_fillAny M_fillAny
    (fun x hp hw => by
      obtain ⟨n, i, nm, rows, over, l, xs⟩ := x
      have hp : i = 0 ∧ n = lenI rows ∧ lenI xs = lenI rows ∧ sameR l (lenI rows) := hp
      have hw_n := wfL_int hw 14 rfl
      have hw_i := wfL_int hw 15 rfl
      have hw_nm := wfC_view hw 0 0 rfl
      have hw_rows := wfC_view hw 0 1 rfl
      have hw_over := wfC_int hw 0 2 rfl
      have hw_l := wfR_row hw 2 rfl
      have hw_xs := wfR_row hw 3 rfl
      obtain ⟨rfl, rfl, h, _⟩ := hp
      exact ⟨⟨rfl, rfl, rfl, rfl, rfl⟩, ⟨by omega, lenI_nn _⟩, h, fun j _ _ => by omega⟩)
    (body_fillAny_ok)
noncomputable def fns_fillAny : Fns := (79, Try.f79, [(3, S_fillAny)]) :: fns
theorem fn_fillAny : FnOK Try.prog 79 Try.f79 [(3, S_fillAny)] := fnOK_loops Try.func79 (fun vs w => Try.call79 vs w) (by kernel_rfl) fun k S h => by
  simp only [List.mem_cons, Prod.mk.injEq, List.not_mem_nil, or_false] at h
  obtain ⟨rfl, rfl⟩ := h
  exact summ_fillAny
theorem fns_fillAnyOK : FnsOK Try.prog fns_fillAny := fnsOK_cons fn_fillAny fnsOK
noncomputable def fillAnyS : List AV → List Blk → AK → Prop := fun args m K => match args, m with | [.ptr 0 0, .fn (.func 92) [] [.ptr 1 0]], [.var [.view [] .str nm, .view [] (.list (.int .i64)) rows, .int .i64 over], .var [.own 2], .row 76 (.list .bool) l []] => need (oneR (lenI rows)) (need (sameR l (lenI rows)) (K (.ret (.view [] .bool (anyV (lenI rows) l))) [.var [.view [] .str nm, .view [] (.list (.int .i64)) rows, .int .i64 over], .var [.own 2], .row 76 (.list .bool) l []] [] [])) | _, _ => False
theorem fillAny_eq (K : AK) (nm : List (List UInt8)) (rows : List (List Int)) (over : Int) (l : List (List Bool)) : acall tab fs_fnAny specs_copiedS fns_fillAny 100 20 79 [.ptr 0 0, .fn (.func 92) [] [.ptr 1 0]] [.var [.view [] .str nm, .view [] (.list (.int .i64)) rows, .int .i64 over], .var [.own 2], .row 76 (.list .bool) l []] (frzK (mlen [.var [.view [] .str nm, .view [] (.list (.int .i64)) rows, .int .i64 over], .var [.own 2], .row 76 (.list .bool) l []]) (.any) [] [] K) =
  (eqIr (lenI rows) (need (geZ (lenI rows)) (need (fitA (lenI rows)) (needr (AV.fn (Fn.func 92) ([]) (AV.ptr 1 0 :: [])) (eqIr (lenI (repI (lenI rows) false)) (eqIr
    0 (eqDr nm (eqDr rows (eqIr over (eqDr l (eqDr (repI (lenI rows) false) (((0 : Int) = 0 ∧ lenI (repI (lenI rows) false) = lenI rows ∧ lenI (repI (lenI rows) false)
    = lenI rows ∧ sameR l (lenI rows)) ∧ ((∀ (y : X_fillAny), (y.1 = lenI (repI (lenI rows) false) ∧ y.2.2.1 = nm ∧ y.2.2.2.1 = rows ∧ y.2.2.2.2.1 = over ∧ y.2.2.2.2.2.1
    = l) ∧ y.2.2.2.2.2.2 = anyV (lenI y.2.2.2.1) y.2.2.2.2.2.1 → K (AOut.ret (AV.view [] Ty.bool y.2.2.2.2.2.2)) (Blk.var (AV.view [] Ty.str y.2.2.1 :: AV.view [] (Ty.int
    IntKind.i64).list y.2.2.2.1 :: AV.int IntKind.i64 y.2.2.2.2.1 :: []) :: Blk.var (AV.own 2 :: []) :: Blk.row 76 Ty.bool.list y.2.2.2.2.2.1 [] :: []) [] []) ∧ True)
    ∧ ∀ (y : X_fillAny), (y.1 = lenI (repI (lenI rows) false) ∧ y.2.2.1 = nm ∧ y.2.2.2.1 = rows ∧ y.2.2.2.2.1 = over ∧ y.2.2.2.2.2.1 = l) ∧ False → K (AOut.ret AV.bad)
    (Blk.var (AV.view [] Ty.str y.2.2.1 :: AV.view [] (Ty.int IntKind.i64).list y.2.2.2.1 :: AV.int IntKind.i64 y.2.2.2.2.1 :: []) :: Blk.var (AV.own 2 :: []) :: Blk.row
    76 Ty.bool.list y.2.2.2.2.2.1 [] :: []) [] [])))))))))))) := by kernel_rfl
theorem fillAny_ok : SpecOK Try.prog 79 fillAnyS := specOKF_of (mkCall fsOK_fnAny specsOK_copiedS fns_fillAnyOK) (.any) [] [] (fun vs w => Try.call79 vs w) fun args m K h hw hwm => by
  unfold fillAnyS at h
  split at h
  · rename_i nm rows over l
    rw [fillAny_eq]
    refine ⟨?_⟩
    simp only [wfAL, wfA, wfS, wfM, wfB, and_true, true_and, wfT_int, wfT_str, wfT_bool, wfT_prod] at hw hwm
    obtain ⟨h1, h2, h⟩ := h
    have hr := lenI_nn rows
    have h10 := h1
    unfold oneR at h10
    have f1 : fitA (lenI rows) := by unfold fitA; omega
    have f2 : lenI (repI (lenI rows) false) = lenI rows := by unfold repI lenI; simp
    simp only [simpsL, implies_true, forall_const, if_true, if_false, reduceCtorEq, f1, f2, h2]
    refine ⟨hr, fun y hy => ?_⟩
    obtain ⟨n, i, nm, rows, over, l, xs⟩ := y
    dsimp only at hy ⊢
    obtain ⟨⟨rfl, rfl, rfl, rfl, rfl⟩, rfl⟩ := hy
    exact h
  · exact h.elim
noncomputable def SP_fillAny : List AV → List Blk → AK → Prop := (altS 92 (frameS fillAnyS) SP_fillNot)
theorem SPok_fillAny : SpecOK Try.prog 79 SP_fillAny := (altS_ok (frame_ok fillAny_ok) SPok_fillNot)
noncomputable def specs_fillAny : Specs := (79, SP_fillAny) :: specs_fillNot
theorem specsOK_fillAny : SpecsOK Try.prog specs_fillAny := specsOK_cons SPok_fillAny specsOK_fillNot
abbrev X_fillPrev := Int × Int × List (den .str) × List (den (.list (.int .i64))) × Int × List (den (.list .bool)) × List (den .bool)
def sh_fillPrev : X_fillPrev → St := fun x => match x with | (n, i, nm, rows, over, l, xs) => ⟨setL (rep .bad 26) [(14, .int .i64 n), (15, .int .i64 i), (1, .fn (.func 84) [] [.ptr 1 0]), (5, .own 3)], [.var [.view [] .str nm, .view [] (.list (.int .i64)) rows, .int .i64 over], .var [.own 2], .row 76 (.list .bool) l [], .row 4 .bool xs []], [3], [3]⟩
def sx_fillPrev : AExit → X_fillPrev → St := fun _ => sh_fillPrev
def nx_fillPrev (σ : St) : X_fillPrev := (gI σ 14, gI σ 15, cV .str σ 0 0, cV (.list (.int .i64)) σ 0 1, cI σ 0 2, rV (.list .bool) σ 2, rV .bool σ 3)
def Pre_fillPrev : X_fillPrev → Prop := fun x => match x with | (n, i, nm, rows, over, l, xs) => i = 0 ∧ n = lenI rows ∧ lenI xs = lenI rows ∧ (1 ≤ lenI l ∧ lenI (nth (.list .bool) l 0) = lenI rows)
def E0_fillPrev : X_fillPrev → X_fillPrev → Prop := fun x y => match x, y with | (n0, i0, nm0, rows0, over0, l0, xs0), (n, i, nm, rows, over, l, xs) => (n = n0 ∧ nm = nm0 ∧ rows = rows0 ∧ over = over0 ∧ l = l0) ∧ (xs = prevV (lenI rows) l)
def R_fillPrev : X_fillPrev → X_fillPrev → Prop := fun x y => match x, y with | (n0, i0, nm0, rows0, over0, l0, xs0), (n, i, nm, rows, over, l, xs) => (n = n0 ∧ nm = nm0 ∧ rows = rows0 ∧ over = over0 ∧ l = l0) ∧ (False)
def D_fillPrev : X_fillPrev → LEnds X_fillPrev := fun x => ⟨[(0, E0_fillPrev x)], R_fillPrev x⟩
noncomputable def S_fillPrev : Summ := summN sh_fillPrev sx_fillPrev nx_fillPrev Pre_fillPrev D_fillPrev
def Inv_fillPrev : X_fillPrev → X_fillPrev → Prop := fun x y => match x, y with | (n0, i0, nm0, rows0, over0, l0, xs0), (n, i, nm, rows, over, l, xs) => (n = n0 ∧ nm = nm0 ∧ rows = rows0 ∧ over = over0 ∧ l = l0) ∧ ((0 ≤ i ∧ i ≤ n) ∧ lenI xs = lenI rows ∧ ∀ j, 0 ≤ j → j < i → nth .bool xs j = (decide (0 < j) && nth .bool (nth (.list .bool) l 0) (j - 1)))
def M_fillPrev : X_fillPrev → X_fillPrev → Nat := fun x y => match x, y with | (n0, i0, nm0, rows0, over0, l0, xs0), (n, i, nm, rows, over, l, xs) => (n - i).toNat
theorem body_fillPrev (Inv : X_fillPrev → Prop) (meas : X_fillPrev → Nat) (nn : Nat) (EE0 RR : X_fillPrev → Prop) (n : Int) (i : Int) (nm : List (den .str)) (rows : List (den (.list (.int .i64)))) (over : Int) (l : List (den (.list .bool))) (xs : List (den .bool)) : awp tab fs_fnAny (acall tab fs_fnAny specs_fillAny fns 100 20) [] 100 (loopAt Try.f79 3) (bodyN sh_fillPrev sx_fillPrev nx_fillPrev Inv meas nn ⟨[(0, EE0)], RR⟩) (sh_fillPrev (n, i, nm, rows, over, l, xs)) =
  (ifB (ltB i n) (need (prevR l i) (need (inI i (lenI xs)) (need (inI i (lenI xs)) (needr (AV.fn (Fn.func 84) ([]) (AV.ptr 1 0 :: [])) (eqIr n (eqIr (addW IntKind.i64
    i 1) (eqDr nm (eqDr rows (eqIr over (eqDr l (eqDr (setI xs i (prevAt l i)) (Inv (n, addW IntKind.i64 i 1, nm, rows, over, l, setI xs i (prevAt l i)) ∧ meas (n, addW
    IntKind.i64 i 1, nm, rows, over, l, setI xs i (prevAt l i)) < nn)))))))))))) (needr (AV.fn (Fn.func 84) ([]) (AV.ptr 1 0 :: [])) (eqIr n (eqIr i (eqDr nm (eqDr rows
    (eqIr over (eqDr l (eqDr xs (EE0 (n, i, nm, rows, over, l, xs))))))))))) := by kernel_rfl
theorem body_fillPrev_ok : ∀ x y, Pre_fillPrev x → Inv_fillPrev x y → wfS (sh_fillPrev y) → Hd (awp tab fs_fnAny (acall tab fs_fnAny specs_fillAny fns 100 20) [] 100 (loopAt Try.f79 3) (bodyN sh_fillPrev sx_fillPrev nx_fillPrev (Inv_fillPrev x) (M_fillPrev x) (M_fillPrev x y) (D_fillPrev x)) (sh_fillPrev y)) := by
  rintro ⟨n0, i0, nm0, rows0, over0, l0, xs0⟩ ⟨n, i, nm, rows, over, l, xs⟩ hp hI hw
  obtain ⟨⟨rfl, rfl, rfl, rfl, rfl⟩, hI⟩ := hI
  have hw_n := wfL_int hw 14 rfl
  have hw_i := wfL_int hw 15 rfl
  have hw_nm := wfC_view hw 0 0 rfl
  have hw_rows := wfC_view hw 0 1 rfl
  have hw_over := wfC_int hw 0 2 rfl
  have hw_l := wfR_row hw 2 rfl
  have hw_xs := wfR_row hw 3 rfl
  have hp : i0 = 0 ∧ n = lenI rows ∧ lenI xs0 = lenI rows ∧ (1 ≤ lenI l ∧ lenI (nth (.list .bool) l 0) = lenI rows) := hp
  unfold D_fillPrev
  rw [body_fillPrev]
  refine ⟨?_⟩
  have hInv : ∀ (i : Int) (xs : List (den .bool)), ((0 ≤ i ∧ i ≤ n) ∧ lenI xs = lenI rows ∧ ∀ j, 0 ≤ j → j < i → nth .bool xs j = (decide (0 < j) && nth .bool (nth (.list .bool) l 0) (j - 1))) → Inv_fillPrev (n, i0, nm, rows, over, l, xs0) (n, i, nm, rows, over, l, xs) := fun _ _ h => ⟨⟨rfl, rfl, rfl, rfl, rfl⟩, h⟩
  generalize hIe : Inv_fillPrev (n, i0, nm, rows, over, l, xs0) = Inv at hInv ⊢
  have hMe : ∀ (i : Int) (xs : List (den .bool)), M_fillPrev (n, i0, nm, rows, over, l, xs0) (n, i, nm, rows, over, l, xs) = (n - i).toNat := fun _ _ => rfl
  generalize M_fillPrev (n, i0, nm, rows, over, l, xs0) = Me at hMe ⊢
  have hE0 : ∀ (i : Int) (xs : List (den .bool)), (xs = prevV (lenI rows) l) → E0_fillPrev (n, i0, nm, rows, over, l, xs0) (n, i, nm, rows, over, l, xs) := fun _ _ h => ⟨⟨rfl, rfl, rfl, rfl, rfl⟩, h⟩
  generalize E0_fillPrev (n, i0, nm, rows, over, l, xs0) = EE0 at hE0 ⊢
  have hR : ∀ (i : Int) (xs : List (den .bool)), (False) → R_fillPrev (n, i0, nm, rows, over, l, xs0) (n, i, nm, rows, over, l, xs) := fun _ _ h => ⟨⟨rfl, rfl, rfl, rfl, rfl⟩, h⟩
  generalize R_fillPrev (n, i0, nm, rows, over, l, xs0) = RR at hR ⊢
  obtain ⟨hi, hl, hI⟩ := hI
  obtain ⟨p1, rfl, p3, p4⟩ := hp
  by_cases hlt : i < lenI rows
  · have hlen := wfT_len hw_rows
    have ei : addW .i64 i 1 = i + 1 := addW64 (by omega) (by omega)
    have hs := set_step (b := prevAt l i) (f := fun j => (decide (0 < j) && nth .bool (nth (.list .bool) l 0) (j - 1))) hi.1 (by rw [hl]; exact hlt) rfl hI
    have hneed : prevR l i := ⟨p4.1, by rw [p4.2]; omega⟩
    rw [ltB_t.2 hlt]
    simp only [simpsL, implies_true, forall_const, if_true, if_false, reduceCtorEq, hMe, ei, hl, hneed]
    repeat' (first | with_reducible rfl | assumption | omega | (exact hInv _ _ ⟨by omega, hs.1.trans hl, hs.2⟩) | refine ⟨?_, ?_⟩ | intro _)
  · rw [ltB_f.2 (Int.not_lt.1 hlt)]
    simp only [simpsL, implies_true, forall_const, if_true, if_false, reduceCtorEq]
    exact hE0 _ _ (tab_ext hl fun j h0 h1 => hI j h0 (by omega))
theorem summ_fillPrev : SummOK Try.prog (loopAt Try.f79 3) S_fillPrev :=
  summN_ok (L := []) (fuel := 100) tabOK fsOK_fnAny (mkCall fsOK_fnAny specsOK_fillAny fnsOK) (fun C => mkDraw fsOK_fnAny (mkCall fsOK_fnAny specsOK_fillAny fnsOK) C) loopsOK_nil Inv_fillPrev M_fillPrev
    (fun x hp hw => by
      obtain ⟨n, i, nm, rows, over, l, xs⟩ := x
      have hp : i = 0 ∧ n = lenI rows ∧ lenI xs = lenI rows ∧ (1 ≤ lenI l ∧ lenI (nth (.list .bool) l 0) = lenI rows) := hp
      have hw_n := wfL_int hw 14 rfl
      have hw_i := wfL_int hw 15 rfl
      have hw_nm := wfC_view hw 0 0 rfl
      have hw_rows := wfC_view hw 0 1 rfl
      have hw_over := wfC_int hw 0 2 rfl
      have hw_l := wfR_row hw 2 rfl
      have hw_xs := wfR_row hw 3 rfl
      obtain ⟨rfl, rfl, h, _⟩ := hp
      exact ⟨⟨rfl, rfl, rfl, rfl, rfl⟩, ⟨by omega, lenI_nn _⟩, h, fun j _ _ => by omega⟩)
    (body_fillPrev_ok)
noncomputable def fns_fillPrev : Fns := (79, Try.f79, [(3, S_fillPrev)]) :: fns
theorem fn_fillPrev : FnOK Try.prog 79 Try.f79 [(3, S_fillPrev)] := fnOK_loops Try.func79 (fun vs w => Try.call79 vs w) (by kernel_rfl) fun k S h => by
  simp only [List.mem_cons, Prod.mk.injEq, List.not_mem_nil, or_false] at h
  obtain ⟨rfl, rfl⟩ := h
  exact summ_fillPrev
theorem fns_fillPrevOK : FnsOK Try.prog fns_fillPrev := fnsOK_cons fn_fillPrev fnsOK
noncomputable def fillPrevS : List AV → List Blk → AK → Prop := fun args m K => match args, m with | [.ptr 0 0, .fn (.func 84) [] [.ptr 1 0]], [.var [.view [] .str nm, .view [] (.list (.int .i64)) rows, .int .i64 over], .var [.own 2], .row 76 (.list .bool) l []] => need (oneR (lenI rows)) (need (headR l (lenI rows)) (K (.ret (.view [] .bool (prevV (lenI rows) l))) [.var [.view [] .str nm, .view [] (.list (.int .i64)) rows, .int .i64 over], .var [.own 2], .row 76 (.list .bool) l []] [] [])) | _, _ => False
theorem fillPrev_eq (K : AK) (nm : List (List UInt8)) (rows : List (List Int)) (over : Int) (l : List (List Bool)) : acall tab fs_fnAny specs_copiedS fns_fillPrev 100 20 79 [.ptr 0 0, .fn (.func 84) [] [.ptr 1 0]] [.var [.view [] .str nm, .view [] (.list (.int .i64)) rows, .int .i64 over], .var [.own 2], .row 76 (.list .bool) l []] (frzK (mlen [.var [.view [] .str nm, .view [] (.list (.int .i64)) rows, .int .i64 over], .var [.own 2], .row 76 (.list .bool) l []]) (.any) [] [] K) =
  (eqIr (lenI rows) (need (geZ (lenI rows)) (need (fitA (lenI rows)) (needr (AV.fn (Fn.func 84) ([]) (AV.ptr 1 0 :: [])) (eqIr (lenI (repI (lenI rows) false)) (eqIr
    0 (eqDr nm (eqDr rows (eqIr over (eqDr l (eqDr (repI (lenI rows) false) (((0 : Int) = 0 ∧ lenI (repI (lenI rows) false) = lenI rows ∧ lenI (repI (lenI rows) false)
    = lenI rows ∧ 1 ≤ lenI l ∧ lenI (nth Ty.bool.list l 0) = lenI rows) ∧ ((∀ (y : X_fillPrev), (y.1 = lenI (repI (lenI rows) false) ∧ y.2.2.1 = nm ∧ y.2.2.2.1 = rows
    ∧ y.2.2.2.2.1 = over ∧ y.2.2.2.2.2.1 = l) ∧ y.2.2.2.2.2.2 = prevV (lenI y.2.2.2.1) y.2.2.2.2.2.1 → K (AOut.ret (AV.view [] Ty.bool y.2.2.2.2.2.2)) (Blk.var (AV.view
    [] Ty.str y.2.2.1 :: AV.view [] (Ty.int IntKind.i64).list y.2.2.2.1 :: AV.int IntKind.i64 y.2.2.2.2.1 :: []) :: Blk.var (AV.own 2 :: []) :: Blk.row 76 Ty.bool.list
    y.2.2.2.2.2.1 [] :: []) [] []) ∧ True) ∧ ∀ (y : X_fillPrev), (y.1 = lenI (repI (lenI rows) false) ∧ y.2.2.1 = nm ∧ y.2.2.2.1 = rows ∧ y.2.2.2.2.1 = over ∧ y.2.2.2.2.2.1
    = l) ∧ False → K (AOut.ret AV.bad) (Blk.var (AV.view [] Ty.str y.2.2.1 :: AV.view [] (Ty.int IntKind.i64).list y.2.2.2.1 :: AV.int IntKind.i64 y.2.2.2.2.1 :: [])
    :: Blk.var (AV.own 2 :: []) :: Blk.row 76 Ty.bool.list y.2.2.2.2.2.1 [] :: []) [] [])))))))))))) := by kernel_rfl
theorem fillPrev_ok : SpecOK Try.prog 79 fillPrevS := specOKF_of (mkCall fsOK_fnAny specsOK_copiedS fns_fillPrevOK) (.any) [] [] (fun vs w => Try.call79 vs w) fun args m K h hw hwm => by
  unfold fillPrevS at h
  split at h
  · rename_i nm rows over l
    rw [fillPrev_eq]
    refine ⟨?_⟩
    simp only [wfAL, wfA, wfS, wfM, wfB, and_true, true_and, wfT_int, wfT_str, wfT_bool, wfT_prod] at hw hwm
    obtain ⟨h1, h2, h⟩ := h
    have hr := lenI_nn rows
    have h10 := h1
    unfold oneR at h10
    have f1 : fitA (lenI rows) := by unfold fitA; omega
    have f2 : lenI (repI (lenI rows) false) = lenI rows := by unfold repI lenI; simp
    simp only [simpsL, implies_true, forall_const, if_true, if_false, reduceCtorEq, f1, f2, (show 1 ≤ lenI l ∧ lenI (nth (.list .bool) l 0) = lenI rows from h2)]
    refine ⟨hr, fun y hy => ?_⟩
    obtain ⟨n, i, nm, rows, over, l, xs⟩ := y
    dsimp only at hy ⊢
    obtain ⟨⟨rfl, rfl, rfl, rfl, rfl⟩, rfl⟩ := hy
    exact h
  · exact h.elim
noncomputable def SP_fillPrev : List AV → List Blk → AK → Prop := (altS 84 (frameS fillPrevS) SP_fillAny)
theorem SPok_fillPrev : SpecOK Try.prog 79 SP_fillPrev := (altS_ok (frame_ok fillPrev_ok) SPok_fillAny)
noncomputable def specs_fillPrev : Specs := (79, SP_fillPrev) :: specs_fillAny
theorem specsOK_fillPrev : SpecsOK Try.prog specs_fillPrev := specsOK_cons SPok_fillPrev specsOK_fillAny
end Go.Proofs.Ytmdjpohmbkodeaa.Sx

