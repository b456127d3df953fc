/- What a part means. -/
import Derived.Test.YtmdjpohmbkodeaaSmTraceF
namespace Go.Proofs.Ytmdjpohmbkodeaa.Sx
open Go.RowKit
set_option maxRecDepth 100000
set_option maxHeartbeats 4000000
set_option linter.unusedVariables false
set_option linter.unusedSimpArgs false
def hd0 (l : List (List Bool)) : List Bool := nth (.list .bool) l 0
def hd1 (l : List (List Bool)) : List Bool := nth (.list .bool) l 1
def meansV (op fr to num : Int) (ts : List (den TermT)) (nm : List (List UInt8)) (rows : List (List Int)) (l : List (List Bool)) : List Bool := if op = 0 then yesV (lenI rows) else if op = 2 then atomV ts num nm rows else if op = 3 then notV (lenI rows) (hd0 l) else if op = 4 then notV (lenI rows) (anyV (lenI rows) (l.map (notV (lenI rows)))) else if op = 5 then anyV (lenI rows) l else if op = 6 then anyV (lenI rows) [notV (lenI rows) (hd0 l), hd1 l] else if op = 7 then prevV (lenI rows) l else if op = 8 then sinceV (lenI rows) fr to (yesV (lenI rows)) (hd0 l) else if op = 9 then notV (lenI rows) (sinceV (lenI rows) fr to (yesV (lenI rows)) (notV (lenI rows) (hd0 l))) else if op = 10 then sinceV (lenI rows) fr to (hd0 l) (hd1 l) else notV (lenI rows) (yesV (lenI rows))
def ov1F (op : Int) (ts : List (den TermT)) (nm : List (List UInt8)) (rows : List (List Int)) (over : Int) : Int := if op = 2 then min over (ovF ts nm rows (lenI rows)) else over
def meansOK (op fr over : Int) (rows : List (List Int)) (l : List (List Bool)) : Prop := (op = 3 ∨ op = 6 ∨ op = 7 ∨ op = 8 ∨ op = 9 ∨ op = 10 → 1 ≤ lenI l) ∧ (op = 6 ∨ op = 10 → 2 ≤ lenI l) ∧ (op = 8 ∨ op = 9 ∨ op = 10 → 0 ≤ fr) ∧ over ≤ lenI rows
theorem list_ext {t : Ty} {xs ys : List (den t)} (hl : lenI xs = lenI ys) (h : ∀ j, 0 ≤ j → j < lenI xs → nth t xs j = nth t ys j) : xs = ys := by
  apply List.ext_getElem
  · unfold lenI at hl; omega
  · intro n h1 h2
    have := h n (by omega) (by unfold lenI; omega)
    simpa [nth, List.getD, h1, h2] using this
theorem nth_map_bool {l : List (List Bool)} {f : List Bool → List Bool} {j : Int} (h0 : 0 ≤ j) (h1 : j < lenI l) : nth (.list .bool) (l.map f) j = f (nth (.list .bool) l j) := by
  unfold nth lenI at *
  have : j.toNat < l.length := by omega
  simp [List.getD, this]
theorem nth_setI {t : Ty} {xs : List (den t)} {i j : Int} {y : den t} (h0 : 0 ≤ i) (h1 : i < lenI xs) (hj : 0 ≤ j) : nth t (setI xs i y) j = if j = i then y else nth t xs j := by
  unfold nth setI lenI at *
  simp only [List.getD, List.getElem?_set]
  by_cases e : j = i
  · subst e
    have : j.toNat < xs.length := by omega
    simp [this]
  · rw [if_neg (by omega), if_neg e]
theorem lenI_setL {t : Ty} {xs : List (den t)} {i : Int} {y : den t} : lenI (setI xs i y) = lenI xs := by simp [lenI, setI]
theorem ov_min {ts : List (den TermT)} {nm : List (List UInt8)} {rows : List (List Int)} {o : Int} (h : o ≤ lenI rows) : ∀ k : Nat, ovG ts nm rows k o = min o (ovG ts nm rows k (lenI rows))
  | 0 => by simp only [ovG]; omega
  | k + 1 => by
    simp only [ovG]
    have := ov_min (ts := ts) (nm := nm) h k
    split <;> omega
theorem tab_len0 {rows : List (List Int)} {f : Int → Bool} : lenI (tabB (lenI rows) f) = lenI rows := tab_len (lenI_nn rows)
theorem yes_len {rows : List (List Int)} : lenI (yesV (lenI rows)) = lenI rows := tab_len0
theorem not_len {rows : List (List Int)} {p : List Bool} : lenI (notV (lenI rows) p) = lenI rows := tab_len0
theorem any_len {rows : List (List Int)} {p : List (List Bool)} : lenI (anyV (lenI rows) p) = lenI rows := tab_len0
theorem since_len {rows : List (List Int)} {fr to : Int} {p q : List Bool} : lenI (sinceV (lenI rows) fr to p q) = lenI rows := tab_len0
theorem means_len {op fr to num : Int} {ts : List (den TermT)} {nm : List (List UInt8)} {rows : List (List Int)} {l : List (List Bool)} : lenI (meansV op fr to num ts nm rows l) = lenI rows := by
  unfold meansV
  repeat' split
  all_goals exact tab_len0
abbrev X_meansL := Int × Int × List (den .str) × List (den (.list (.int .i64))) × Int × List (den (.list .bool)) × Int × Int × Int × Int × List (den TermT) × Int
def sh_meansL : X_meansL → St := fun x => match x with | (n, i, nm, rows, over, l, op, na, fr, to, ts, num) => ⟨setL (rep .bad 122) [(33, .int .i64 n), (34, .int .i64 i), (0, .ptr 0 0), (5, .ptr 3 0)], [.var [.view [] .str nm, .view [] (.list (.int .i64)) rows, .int .i64 over], .row 76 (.list .bool) l [], .var [.int .i64 op, .int .i64 na, .int .i64 fr, .int .i64 to, .view [] TermT ts, .int .i64 num], .var [.own 1]], [], [1]⟩
def sx_meansL : AExit → X_meansL → St := fun _ => sh_meansL
def nx_meansL (σ : St) : X_meansL := (gI σ 33, gI σ 34, cV .str σ 0 0, cV (.list (.int .i64)) σ 0 1, cI σ 0 2, rV (.list .bool) σ 1, cI σ 2 0, cI σ 2 1, cI σ 2 2, cI σ 2 3, cV TermT σ 2 4, cI σ 2 5)
def Pre_meansL : X_meansL → Prop := fun x => match x with | (n, i, nm, rows, over, l, op, na, fr, to, ts, num) => i = 0 ∧ n = lenI l ∧ sameR l (lenI rows) ∧ oneR (lenI rows)
def E1_meansL : X_meansL → X_meansL → Prop := fun x y => match x, y with | (n0, i0, nm0, rows0, over0, l0, op0, na0, fr0, to0, ts0, num0), (n, i, nm, rows, over, l, op, na, fr, to, ts, num) => (n = n0 ∧ nm = nm0 ∧ rows = rows0 ∧ over = over0 ∧ op = op0 ∧ na = na0 ∧ fr = fr0 ∧ to = to0 ∧ ts = ts0 ∧ num = num0) ∧ (l = l0.map (notV (lenI rows)))
def R_meansL : X_meansL → X_meansL → Prop := fun x y => match x, y with | (n0, i0, nm0, rows0, over0, l0, op0, na0, fr0, to0, ts0, num0), (n, i, nm, rows, over, l, op, na, fr, to, ts, num) => (n = n0 ∧ nm = nm0 ∧ rows = rows0 ∧ over = over0 ∧ op = op0 ∧ na = na0 ∧ fr = fr0 ∧ to = to0 ∧ ts = ts0 ∧ num = num0) ∧ (False)
def D_meansL : X_meansL → LEnds X_meansL := fun x => ⟨[(1, E1_meansL x)], R_meansL x⟩
noncomputable def S_meansL : Summ := summN sh_meansL sx_meansL nx_meansL Pre_meansL D_meansL
def Inv_meansL : X_meansL → X_meansL → Prop := fun x y => match x, y with | (n0, i0, nm0, rows0, over0, l0, op0, na0, fr0, to0, ts0, num0), (n, i, nm, rows, over, l, op, na, fr, to, ts, num) => (n = n0 ∧ nm = nm0 ∧ rows = rows0 ∧ over = over0 ∧ op = op0 ∧ na = na0 ∧ fr = fr0 ∧ to = to0 ∧ ts = ts0 ∧ num = num0) ∧ ((0 ≤ i ∧ i ≤ n) ∧ lenI l = n ∧ ∀ j, 0 ≤ j → j < n → nth (.list .bool) l j = if j < i then notV (lenI rows) (nth (.list .bool) l0 j) else nth (.list .bool) l0 j)
def M_meansL : X_meansL → X_meansL → Nat := fun x y => match x, y with | (n0, i0, nm0, rows0, over0, l0, op0, na0, fr0, to0, ts0, num0), (n, i, nm, rows, over, l, op, na, fr, to, ts, num) => (n - i).toNat
theorem body_meansL (Inv : X_meansL → Prop) (meas : X_meansL → Nat) (nn : Nat) (EE1 RR : X_meansL → Prop) (n : Int) (i : Int) (nm : List (den .str)) (rows : List (den (.list (.int .i64)))) (over : Int) (l : List (den (.list .bool))) (op : Int) (na : Int) (fr : Int) (to : Int) (ts : List (den TermT)) (num : Int) : awp tab fs_fnAny (acall tab fs_fnAny specs_tatom fns 100 20) [] 100 (loopAt Try.f60 11) (bodyN sh_meansL sx_meansL nx_meansL Inv meas nn ⟨[(1, EE1)], RR⟩) (sh_meansL (n, i, nm, rows, over, l, op, na, fr, to, ts, num)) =
  (ifB (ltB i n) (need (inI i (lenI l)) (need (inI i (lenI l)) (eqI i i (eqI i i (need (inI i (lenI l)) (need (AV.rptr 1 Ty.bool.list i 0 = AV.rptr 1 Ty.bool.list i
    0) (need (inI i (lenI l)) (need (AV.view (@List.nil Nat) Ty.bool (nth Ty.bool.list l i) = AV.view (@List.nil Nat) Ty.bool (nth Ty.bool.list l i)) (need (oneR (lenI
    rows)) (need (lenI (nth Ty.bool.list l i) = lenI rows) (need (inI i (lenI l)) (eqI i i (eqI i i (need (inI i (lenI l)) (need (AV.rptr 1 Ty.bool.list i 0 = AV.rptr
    1 Ty.bool.list i 0) (need (inI i (lenI l)) (need (AV.rptr 1 Ty.bool.list i 0 = AV.rptr 1 Ty.bool.list i 0) (need (inI i (lenI l)) (eqI n n (eqI (addW IntKind.i64
    i 1) (addW IntKind.i64 i 1) (eqD nm nm (eqD rows rows (eqI over over (eqD (setI l i (notV (lenI rows) (nth Ty.bool.list l i))) (setI l i (notV (lenI rows) (nth Ty.bool.list
    l i))) (eqI op op (eqI na na (eqI fr fr (eqI to to (eqD ts ts (eqI num num (Inv (n, addW IntKind.i64 i 1, nm, rows, over, setI l i (notV (lenI rows) (nth Ty.bool.list
    l i)), op, na, fr, to, ts, num) ∧ meas (n, addW IntKind.i64 i 1, nm, rows, over, setI l i (notV (lenI rows) (nth Ty.bool.list l i)), op, na, fr, to, ts, num) < nn)))))))))))))))))))))))))))))))
    (eqI n n (eqI i i (eqD nm nm (eqD rows rows (eqI over over (eqD l l (eqI op op (eqI na na (eqI fr fr (eqI to to (eqD ts ts (eqI num num (EE1 (n, i, nm, rows, over,
    l, op, na, fr, to, ts, num))))))))))))))) := by kernel_rfl
theorem body_meansL_ok : ∀ x y, Pre_meansL x → Inv_meansL x y → wfS (sh_meansL y) → Hd (awp tab fs_fnAny (acall tab fs_fnAny specs_tatom fns 100 20) [] 100 (loopAt Try.f60 11) (bodyN sh_meansL sx_meansL nx_meansL (Inv_meansL x) (M_meansL x) (M_meansL x y) (D_meansL x)) (sh_meansL y)) := by
  rintro ⟨n0, i0, nm0, rows0, over0, l0, op0, na0, fr0, to0, ts0, num0⟩ ⟨n, i, nm, rows, over, l, op, na, fr, to, ts, num⟩ hp hI hw
  obtain ⟨⟨rfl, rfl, rfl, rfl, rfl, rfl, rfl, rfl, rfl, rfl⟩, hI⟩ := hI
  have hw_n := wfL_int hw 33 rfl
  have hw_i := wfL_int hw 34 rfl
  have hw_nm := wfC_view hw 0 0 rfl
  have hw_rows := wfC_view hw 0 1 rfl
  have hw_over := wfC_int hw 0 2 rfl
  have hw_l := wfR_row hw 1 rfl
  have hw_op := wfC_int hw 2 0 rfl
  have hw_na := wfC_int hw 2 1 rfl
  have hw_fr := wfC_int hw 2 2 rfl
  have hw_to := wfC_int hw 2 3 rfl
  have hw_ts := wfC_view hw 2 4 rfl
  have hw_num := wfC_int hw 2 5 rfl
  have hp : i0 = 0 ∧ n = lenI l0 ∧ sameR l0 (lenI rows) ∧ oneR (lenI rows) := hp
  unfold D_meansL
  rw [body_meansL]
  refine ⟨?_⟩
  have hInv : ∀ (i : Int) (l : List (den (.list .bool))), ((0 ≤ i ∧ i ≤ n) ∧ lenI l = n ∧ ∀ j, 0 ≤ j → j < n → nth (.list .bool) l j = if j < i then notV (lenI rows) (nth (.list .bool) l0 j) else nth (.list .bool) l0 j) → Inv_meansL (n, i0, nm, rows, over, l0, op, na, fr, to, ts, num) (n, i, nm, rows, over, l, op, na, fr, to, ts, num) := fun _ _ h => ⟨⟨rfl, rfl, rfl, rfl, rfl, rfl, rfl, rfl, rfl, rfl⟩, h⟩
  generalize hIe : Inv_meansL (n, i0, nm, rows, over, l0, op, na, fr, to, ts, num) = Inv at hInv ⊢
  have hMe : ∀ (i : Int) (l : List (den (.list .bool))), M_meansL (n, i0, nm, rows, over, l0, op, na, fr, to, ts, num) (n, i, nm, rows, over, l, op, na, fr, to, ts, num) = (n - i).toNat := fun _ _ => rfl
  generalize M_meansL (n, i0, nm, rows, over, l0, op, na, fr, to, ts, num) = Me at hMe ⊢
  have hE1 : ∀ (i : Int) (l : List (den (.list .bool))), (l = l0.map (notV (lenI rows))) → E1_meansL (n, i0, nm, rows, over, l0, op, na, fr, to, ts, num) (n, i, nm, rows, over, l, op, na, fr, to, ts, num) := fun _ _ h => ⟨⟨rfl, rfl, rfl, rfl, rfl, rfl, rfl, rfl, rfl, rfl⟩, h⟩
  generalize E1_meansL (n, i0, nm, rows, over, l0, op, na, fr, to, ts, num) = EE1 at hE1 ⊢
  have hR : ∀ (i : Int) (l : List (den (.list .bool))), (False) → R_meansL (n, i0, nm, rows, over, l0, op, na, fr, to, ts, num) (n, i, nm, rows, over, l, op, na, fr, to, ts, num) := fun _ _ h => ⟨⟨rfl, rfl, rfl, rfl, rfl, rfl, rfl, rfl, rfl, rfl⟩, h⟩
  generalize R_meansL (n, i0, nm, rows, over, l0, op, na, fr, to, ts, num) = RR at hR ⊢
  obtain ⟨hi, hl, hI⟩ := hI
  obtain ⟨p1, rfl, p3, p4⟩ := hp
  by_cases hlt : i < lenI l0
  · have hlen : lenI l0 ≤ 140737488355328 := by rw [← hl]; exact wfT_len hw_l
    have ei : addW .i64 i 1 = i + 1 := addW64 (by omega) (by omega)
    have hx : nth (.list .bool) l i = nth (.list .bool) l0 i := by rw [hI i hi.1 hlt, if_neg (by omega)]
    have hxl : lenI (nth (.list .bool) l i) = lenI rows := by rw [hx]; exact p3 _ (nth_mem hi.1 hlt)
    have hs : ∀ j, 0 ≤ j → j < lenI l0 → nth (.list .bool) (setI l i (notV (lenI rows) (nth (.list .bool) l i))) j = if j < i + 1 then notV (lenI rows) (nth (.list .bool) l0 j) else nth (.list .bool) l0 j := fun j h0 h1 => by
      rw [nth_setI (t := .list .bool) hi.1 (by rw [hl]; exact hlt) h0]
      by_cases e : j = i
      · subst e; rw [if_pos rfl, if_pos (by omega), hx]
      · rw [if_neg e, hI j h0 h1]
        by_cases h2 : j < i
        · rw [if_pos h2, if_pos (by omega)]
        · rw [if_neg h2, if_neg (by omega)]
    rw [ltB_t.2 hlt]
    simp only [simpsL, implies_true, forall_const, if_true, if_false, reduceCtorEq, hMe, ei, p4, hxl, hl]
    repeat' (first | with_reducible rfl | assumption | omega | (exact hInv _ _ ⟨by omega, lenI_setL.trans hl, hs⟩) | refine ⟨?_, ?_⟩ | intro _)
  · rw [ltB_f.2 (Int.not_lt.1 hlt)]
    simp only [simpsL, implies_true, forall_const, if_true, if_false, reduceCtorEq]
    refine hE1 _ _ (list_ext (t := .list .bool) (by rw [hl]; simp [lenI]) fun j h0 h1 => ?_)
    rw [nth_map_bool h0 (by omega), hI j h0 (by omega), if_pos (by omega)]
theorem summ_meansL : SummOK Try.prog (loopAt Try.f60 11) S_meansL :=
  summN_ok (L := []) (fuel := 100) tabOK fsOK_fnAny (mkCall fsOK_fnAny specsOK_tatom fnsOK) (fun C => mkDraw fsOK_fnAny (mkCall fsOK_fnAny specsOK_tatom fnsOK) C) loopsOK_nil Inv_meansL M_meansL
    (fun x hp hw => by
      obtain ⟨n, i, nm, rows, over, l, op, na, fr, to, ts, num⟩ := x
      have hp : i = 0 ∧ n = lenI l ∧ sameR l (lenI rows) ∧ oneR (lenI rows) := hp
      have hw_n := wfL_int hw 33 rfl
      have hw_i := wfL_int hw 34 rfl
      have hw_nm := wfC_view hw 0 0 rfl
      have hw_rows := wfC_view hw 0 1 rfl
      have hw_over := wfC_int hw 0 2 rfl
      have hw_l := wfR_row hw 1 rfl
      have hw_op := wfC_int hw 2 0 rfl
      have hw_na := wfC_int hw 2 1 rfl
      have hw_fr := wfC_int hw 2 2 rfl
      have hw_to := wfC_int hw 2 3 rfl
      have hw_ts := wfC_view hw 2 4 rfl
      have hw_num := wfC_int hw 2 5 rfl
      obtain ⟨rfl, rfl, h⟩ := hp
      refine ⟨⟨rfl, rfl, rfl, rfl, rfl, rfl, rfl, rfl, rfl, rfl⟩, ⟨by omega, lenI_nn _⟩, rfl, fun j h0 _ => ?_⟩
      rw [if_neg (by omega)])
    (body_meansL_ok)
noncomputable def fns_means : Fns := (60, Try.f60, [(11, S_meansL)]) :: fns
theorem fn_means : FnOK Try.prog 60 Try.f60 [(11, S_meansL)] := fnOK_loops Try.func60 (fun vs w => Try.call60 vs w) (by kernel_rfl) fun k S h => by
  simp only [List.mem_cons, Prod.mk.injEq, List.not_mem_nil, or_false] at h
  obtain ⟨rfl, rfl⟩ := h
  exact summ_meansL
theorem fns_meansOK : FnsOK Try.prog fns_means := fnsOK_cons fn_means fnsOK
noncomputable def meansS : List AV → List Blk → AK → Prop := fun args m K => match args, m with | [.ptr 0 0, .agg [.int .i64 op, .int .i64 na, .int .i64 fr, .int .i64 to, .view [] (.prod .str (.int .i64)) ts, .int .i64 num], .own 1], [.var [.view [] .str nm, .view [] (.list (.int .i64)) rows, .int .i64 over], .row 76 (.list .bool) l []] => need (oneR (lenI rows)) (need (fewT ts) (need (sameR l (lenI rows)) (need (meansOK op fr over rows l) (∀ l' : List (List Bool), K (.ret (.view [] .bool (meansV op fr to num ts nm rows l))) [.var [.view [] .str nm, .view [] (.list (.int .i64)) rows, .int .i64 (ov1F op ts nm rows over)], .row 76 (.list .bool) l' []] [] [0, 1])))) | _, _ => False
theorem means_eq (K : AK) (op na fr to : Int) (ts : List (den TermT)) (num : Int) (nm : List (List UInt8)) (rows : List (List Int)) (over : Int) (l : List (List Bool)) : acall tab fs_fnAny specs_tatom fns_means 100 20 60 [.ptr 0 0, .agg [.int .i64 op, .int .i64 na, .int .i64 fr, .int .i64 to, .view [] TermT ts, .int .i64 num], .own 1] [.var [.view [] .str nm, .view [] (.list (.int .i64)) rows, .int .i64 over], .row 76 (.list .bool) l []] (frzK (mlen [.var [.view [] .str nm, .view [] (.list (.int .i64)) rows, .int .i64 over], .row 76 (.list .bool) l []]) (.any) [] [0, 1] K) =
  (need (oneR (lenI rows)) (ifB (eqB op 0) (K (AOut.ret (AV.view (@List.nil Nat) Ty.bool (yesV (lenI rows)))) (Blk.var (AV.view (@List.nil Nat) Ty.str nm :: AV.view
    (@List.nil Nat) (Ty.int IntKind.i64).list rows :: AV.int IntKind.i64 over :: @List.nil AV) :: Blk.row 76 Ty.bool.list l (@List.nil Nat) :: @List.nil Blk) (@List.nil
    Nat) (0 :: 1 :: @List.nil Nat)) (ifB (eqB op 2) (need (oneR (lenI rows)) (need (fewT ts) (K (AOut.ret (AV.view (@List.nil Nat) Ty.bool (atomV ts num nm rows))) (Blk.var
    (AV.view (@List.nil Nat) Ty.str nm :: AV.view (@List.nil Nat) (Ty.int IntKind.i64).list rows :: AV.int IntKind.i64 (ovF ts nm rows over) :: @List.nil AV) :: Blk.row
    76 Ty.bool.list l (@List.nil Nat) :: @List.nil Blk) (@List.nil Nat) (0 :: 1 :: @List.nil Nat)))) (ifB (eqB op 3) (need (inI 0 (lenI l)) (need (inI 0 (lenI l)) (need
    (oneR (lenI rows)) (need (lenI (nth Ty.bool.list l 0) = lenI rows) (K (AOut.ret (AV.view (@List.nil Nat) Ty.bool (notV (lenI rows) (nth Ty.bool.list l 0)))) (Blk.var
    (AV.view (@List.nil Nat) Ty.str nm :: AV.view (@List.nil Nat) (Ty.int IntKind.i64).list rows :: AV.int IntKind.i64 over :: @List.nil AV) :: Blk.row 76 Ty.bool.list
    l (@List.nil Nat) :: @List.nil Blk) (@List.nil Nat) (0 :: 1 :: @List.nil Nat)))))) (ifB (eqB op 4) (eqI (lenI l) (lenI l) (eqI 0 0 (eqD nm nm (eqD rows rows (eqI
    over over (eqD l l (eqI op op (eqI na na (eqI fr fr (eqI to to (eqD ts ts (eqI num num (((0 : Int) = 0 ∧ lenI l = lenI l ∧ sameR l (lenI rows) ∧ oneR (lenI rows))
    ∧ ((∀ (y : X_meansL), (y.1 = lenI l ∧ y.2.2.1 = nm ∧ y.2.2.2.1 = rows ∧ y.2.2.2.2.1 = over ∧ y.2.2.2.2.2.2.1 = op ∧ y.2.2.2.2.2.2.2.1 = na ∧ y.2.2.2.2.2.2.2.2.1
    = fr ∧ y.2.2.2.2.2.2.2.2.2.1 = to ∧ y.2.2.2.2.2.2.2.2.2.2.1 = ts ∧ y.2.2.2.2.2.2.2.2.2.2.2 = num) ∧ y.2.2.2.2.2.1 = List.map (notV (lenI y.2.2.2.1)) l → need (oneR
    (lenI y.2.2.2.1)) (need (sameR y.2.2.2.2.2.1 (lenI y.2.2.2.1)) (need (oneR (lenI y.2.2.2.1)) (need (lenI (anyV (lenI y.2.2.2.1) y.2.2.2.2.2.1) = lenI y.2.2.2.1)
    (K (AOut.ret (AV.view (@List.nil Nat) Ty.bool (notV (lenI y.2.2.2.1) (anyV (lenI y.2.2.2.1) y.2.2.2.2.2.1)))) (Blk.var (AV.view (@List.nil Nat) Ty.str y.2.2.1 ::
    AV.view (@List.nil Nat) (Ty.int IntKind.i64).list y.2.2.2.1 :: AV.int IntKind.i64 y.2.2.2.2.1 :: @List.nil AV) :: Blk.row 76 Ty.bool.list y.2.2.2.2.2.1 (@List.nil
    Nat) :: @List.nil Blk) (@List.nil Nat) (0 :: 1 :: @List.nil Nat)))))) ∧ True) ∧ ∀ (y : X_meansL), (y.1 = lenI l ∧ y.2.2.1 = nm ∧ y.2.2.2.1 = rows ∧ y.2.2.2.2.1 =
    over ∧ y.2.2.2.2.2.2.1 = op ∧ y.2.2.2.2.2.2.2.1 = na ∧ y.2.2.2.2.2.2.2.2.1 = fr ∧ y.2.2.2.2.2.2.2.2.2.1 = to ∧ y.2.2.2.2.2.2.2.2.2.2.1 = ts ∧ y.2.2.2.2.2.2.2.2.2.2.2
    = num) ∧ False → K (AOut.ret AV.bad) (Blk.var (AV.view (@List.nil Nat) Ty.str y.2.2.1 :: AV.view (@List.nil Nat) (Ty.int IntKind.i64).list y.2.2.2.1 :: AV.int IntKind.i64
    y.2.2.2.2.1 :: @List.nil AV) :: Blk.row 76 Ty.bool.list y.2.2.2.2.2.1 (@List.nil Nat) :: @List.nil Blk) (@List.nil Nat) (0 :: 1 :: @List.nil Nat)))))))))))))) (ifB
    (eqB op 5) (need (oneR (lenI rows)) (need (sameR l (lenI rows)) (K (AOut.ret (AV.view (@List.nil Nat) Ty.bool (anyV (lenI rows) l))) (Blk.var (AV.view (@List.nil
    Nat) Ty.str nm :: AV.view (@List.nil Nat) (Ty.int IntKind.i64).list rows :: AV.int IntKind.i64 over :: @List.nil AV) :: Blk.row 76 Ty.bool.list l (@List.nil Nat)
    :: @List.nil Blk) (@List.nil Nat) (0 :: 1 :: @List.nil Nat)))) (ifB (eqB op 6) (need (inI 0 (lenI l)) (need (inI 0 (lenI l)) (need (inI 1 (lenI l)) (need (inI 1
    (lenI l)) (need (inI 0 (lenI l)) (need (AV.rptr 1 Ty.bool.list 0 0 = AV.rptr 1 Ty.bool.list 0 0) (need (inI 0 (lenI l)) (need (AV.view (@List.nil Nat) Ty.bool (nth
    Ty.bool.list l 0) = AV.view (@List.nil Nat) Ty.bool (nth Ty.bool.list l 0)) (need (inI 1 (lenI l)) (need (AV.rptr 1 Ty.bool.list 1 0 = AV.rptr 1 Ty.bool.list 1 0)
    (need (inI 1 (lenI l)) (need (AV.view (@List.nil Nat) Ty.bool (nth Ty.bool.list l 1) = AV.view (@List.nil Nat) Ty.bool (nth Ty.bool.list l 1)) (need (oneR (lenI
    rows)) (need (lenI (nth Ty.bool.list l 0) = lenI rows) (need (inI 0 (lenI l)) (need (AV.rptr 1 Ty.bool.list 0 0 = AV.rptr 1 Ty.bool.list 0 0) (need (inI 1 (lenI
    l)) (need (AV.rptr 1 Ty.bool.list 1 0 = AV.rptr 1 Ty.bool.list 1 0) (need (inI 1 (lenI l)) (need (AV.view (@List.nil Nat) Ty.bool (nth Ty.bool.list l 1) = AV.view
    (@List.nil Nat) Ty.bool (nth Ty.bool.list l 1)) (need (inI 0 (lenI l)) (need (AV.rptr 1 Ty.bool.list 0 0 = AV.rptr 1 Ty.bool.list 0 0) (need (inI 1 (lenI l)) (need
    (AV.rptr 1 Ty.bool.list 1 0 = AV.rptr 1 Ty.bool.list 1 0) (need (oneR (lenI rows)) (need (sameR (notV (lenI rows) (nth Ty.bool.list l 0) :: nth Ty.bool.list l 1
    :: @List.nil (den Ty.bool.list)) (lenI rows)) (need (inI 0 (lenI l)) (need (AV.rptr 1 Ty.bool.list 0 0 = AV.rptr 1 Ty.bool.list 0 0) (need (inI 1 (lenI l)) (need
    (AV.rptr 1 Ty.bool.list 1 0 = AV.rptr 1 Ty.bool.list 1 0) (K (AOut.ret (AV.view (@List.nil Nat) Ty.bool (anyV (lenI rows) (notV (lenI rows) (nth Ty.bool.list l 0)
    :: nth Ty.bool.list l 1 :: @List.nil (den Ty.bool.list))))) (Blk.var (AV.view (@List.nil Nat) Ty.str nm :: AV.view (@List.nil Nat) (Ty.int IntKind.i64).list rows
    :: AV.int IntKind.i64 over :: @List.nil AV) :: Blk.row 76 Ty.bool.list l (@List.nil Nat) :: @List.nil Blk) (@List.nil Nat) (0 :: 1 :: @List.nil Nat))))))))))))))))))))))))))))))))
    (ifB (eqB op 7) (need (oneR (lenI rows)) (need (headR l (lenI rows)) (K (AOut.ret (AV.view (@List.nil Nat) Ty.bool (prevV (lenI rows) l))) (Blk.var (AV.view (@List.nil
    Nat) Ty.str nm :: AV.view (@List.nil Nat) (Ty.int IntKind.i64).list rows :: AV.int IntKind.i64 over :: @List.nil AV) :: Blk.row 76 Ty.bool.list l (@List.nil Nat)
    :: @List.nil Blk) (@List.nil Nat) (0 :: 1 :: @List.nil Nat)))) (ifB (eqB op 8) (need (inI 0 (lenI l)) (need (inI 0 (lenI l)) (eqI fr fr (eqI to to (need (AV.view
    (@List.nil Nat) Ty.bool (yesV (lenI rows)) = AV.view (@List.nil Nat) Ty.bool (yesV (lenI rows))) (need (inI 0 (lenI l)) (need (AV.rptr 1 Ty.bool.list 0 0 = AV.rptr
    1 Ty.bool.list 0 0) (need (inI 0 (lenI l)) (need (AV.view (@List.nil Nat) Ty.bool (nth Ty.bool.list l 0) = AV.view (@List.nil Nat) Ty.bool (nth Ty.bool.list l 0))
    (need (oneR (lenI rows)) (need (lenI (yesV (lenI rows)) = lenI rows) (need (lenI (nth Ty.bool.list l 0) = lenI rows) (need (geZ fr) (need (inI 0 (lenI l)) (need
    (AV.rptr 1 Ty.bool.list 0 0 = AV.rptr 1 Ty.bool.list 0 0) (K (AOut.ret (AV.view (@List.nil Nat) Ty.bool (sinceV (lenI rows) fr to (yesV (lenI rows)) (nth Ty.bool.list
    l 0)))) (Blk.var (AV.view (@List.nil Nat) Ty.str nm :: AV.view (@List.nil Nat) (Ty.int IntKind.i64).list rows :: AV.int IntKind.i64 over :: @List.nil AV) :: Blk.row
    76 Ty.bool.list l (@List.nil Nat) :: @List.nil Blk) (@List.nil Nat) (0 :: 1 :: @List.nil Nat))))))))))))))))) (ifB (eqB op 9) (need (inI 0 (lenI l)) (need (inI 0
    (lenI l)) (eqI fr fr (eqI to to (need (AV.view (@List.nil Nat) Ty.bool (yesV (lenI rows)) = AV.view (@List.nil Nat) Ty.bool (yesV (lenI rows))) (need (inI 0 (lenI
    l)) (need (AV.rptr 1 Ty.bool.list 0 0 = AV.rptr 1 Ty.bool.list 0 0) (need (inI 0 (lenI l)) (need (AV.view (@List.nil Nat) Ty.bool (nth Ty.bool.list l 0) = AV.view
    (@List.nil Nat) Ty.bool (nth Ty.bool.list l 0)) (need (oneR (lenI rows)) (need (lenI (nth Ty.bool.list l 0) = lenI rows) (eqI fr fr (eqI to to (need (AV.view (@List.nil
    Nat) Ty.bool (yesV (lenI rows)) = AV.view (@List.nil Nat) Ty.bool (yesV (lenI rows))) (need (inI 0 (lenI l)) (need (AV.rptr 1 Ty.bool.list 0 0 = AV.rptr 1 Ty.bool.list
    0 0) (need (oneR (lenI rows)) (need (lenI (yesV (lenI rows)) = lenI rows) (need (lenI (notV (lenI rows) (nth Ty.bool.list l 0)) = lenI rows) (need (geZ fr) (need
    (inI 0 (lenI l)) (need (AV.rptr 1 Ty.bool.list 0 0 = AV.rptr 1 Ty.bool.list 0 0) (need (oneR (lenI rows)) (need (lenI (sinceV (lenI rows) fr to (yesV (lenI rows))
    (notV (lenI rows) (nth Ty.bool.list l 0))) = lenI rows) (need (inI 0 (lenI l)) (need (AV.rptr 1 Ty.bool.list 0 0 = AV.rptr 1 Ty.bool.list 0 0) (K (AOut.ret (AV.view
    (@List.nil Nat) Ty.bool (notV (lenI rows) (sinceV (lenI rows) fr to (yesV (lenI rows)) (notV (lenI rows) (nth Ty.bool.list l 0)))))) (Blk.var (AV.view (@List.nil
    Nat) Ty.str nm :: AV.view (@List.nil Nat) (Ty.int IntKind.i64).list rows :: AV.int IntKind.i64 over :: @List.nil AV) :: Blk.row 76 Ty.bool.list l (@List.nil Nat)
    :: @List.nil Blk) (@List.nil Nat) (0 :: 1 :: @List.nil Nat)))))))))))))))))))))))))))) (ifB (eqB op 10) (need (inI 0 (lenI l)) (need (inI 0 (lenI l)) (need (inI
    1 (lenI l)) (need (inI 1 (lenI l)) (eqI fr fr (eqI to to (need (inI 0 (lenI l)) (need (AV.rptr 1 Ty.bool.list 0 0 = AV.rptr 1 Ty.bool.list 0 0) (need (inI 0 (lenI
    l)) (need (AV.view (@List.nil Nat) Ty.bool (nth Ty.bool.list l 0) = AV.view (@List.nil Nat) Ty.bool (nth Ty.bool.list l 0)) (need (inI 1 (lenI l)) (need (AV.rptr
    1 Ty.bool.list 1 0 = AV.rptr 1 Ty.bool.list 1 0) (need (inI 1 (lenI l)) (need (AV.view (@List.nil Nat) Ty.bool (nth Ty.bool.list l 1) = AV.view (@List.nil Nat) Ty.bool
    (nth Ty.bool.list l 1)) (need (oneR (lenI rows)) (need (lenI (nth Ty.bool.list l 0) = lenI rows) (need (lenI (nth Ty.bool.list l 1) = lenI rows) (need (geZ fr) (need
    (inI 0 (lenI l)) (need (AV.rptr 1 Ty.bool.list 0 0 = AV.rptr 1 Ty.bool.list 0 0) (need (inI 1 (lenI l)) (need (AV.rptr 1 Ty.bool.list 1 0 = AV.rptr 1 Ty.bool.list
    1 0) (K (AOut.ret (AV.view (@List.nil Nat) Ty.bool (sinceV (lenI rows) fr to (nth Ty.bool.list l 0) (nth Ty.bool.list l 1)))) (Blk.var (AV.view (@List.nil Nat) Ty.str
    nm :: AV.view (@List.nil Nat) (Ty.int IntKind.i64).list rows :: AV.int IntKind.i64 over :: @List.nil AV) :: Blk.row 76 Ty.bool.list l (@List.nil Nat) :: @List.nil
    Blk) (@List.nil Nat) (0 :: 1 :: @List.nil Nat)))))))))))))))))))))))) (need (oneR (lenI rows)) (need (lenI (yesV (lenI rows)) = lenI rows) (K (AOut.ret (AV.view
    (@List.nil Nat) Ty.bool (notV (lenI rows) (yesV (lenI rows))))) (Blk.var (AV.view (@List.nil Nat) Ty.str nm :: AV.view (@List.nil Nat) (Ty.int IntKind.i64).list
    rows :: AV.int IntKind.i64 over :: @List.nil AV) :: Blk.row 76 Ty.bool.list l (@List.nil Nat) :: @List.nil Blk) (@List.nil Nat) (0 :: 1 :: @List.nil Nat))))))))))))))) := by kernel_rfl
theorem means_ok : SpecOK Try.prog 60 meansS := specOKF_of (mkCall fsOK_fnAny specsOK_tatom fns_meansOK) (.any) [] [0, 1] (fun vs w => Try.call60 vs w) fun args m K h hw hwm => by
  unfold meansS at h
  split at h
  · rename_i op na fr to ts num nm rows over l
    rw [means_eq]
    refine ⟨?_⟩
    simp only [wfAL, wfA, wfS, wfM, wfB, and_true, true_and, wfT_int, wfT_str, wfT_bool, wfT_prod] at hw hwm
    obtain ⟨h1, h2, h3, h4, h⟩ := h
    unfold meansOK at h4
    obtain ⟨a1, a2, a3, a4⟩ := h4
    have L0 : 1 ≤ lenI l → lenI (nth (.list .bool) l 0) = lenI rows := fun hx => h3 _ (nth_mem (t := .list .bool) (by omega) (by omega))
    have L1 : 2 ≤ lenI l → lenI (nth (.list .bool) l 1) = lenI rows := fun hx => h3 _ (nth_mem (t := .list .bool) (by omega) (by omega))
    have y1 := yes_len (rows := rows)
    have y2 : ∀ p, lenI (notV (lenI rows) p) = lenI rows := fun p => not_len
    have y3 : ∀ l, lenI (anyV (lenI rows) l) = lenI rows := fun p => any_len
    have y4 : ∀ fr to p q, lenI (sinceV (lenI rows) fr to p q) = lenI rows := fun _ _ _ _ => since_len
    simp only [need_def, h1, true_and]
    by_cases e0 : op = 0
    · subst e0
      have hO : ov1F 0 ts nm rows over = over := by simp [ov1F]
      have hV : meansV 0 fr to num ts nm rows l = yesV (lenI rows) := by simp [meansV, hd0, hd1]
      rw [hV, hO] at h
      rw [eqB_t.2 rfl]
      simp only [simpsL, implies_true, forall_const, if_true, if_false, reduceCtorEq, h1, h2, h3, y1, y2, y3, y4]
      repeat' (first | with_reducible rfl | assumption | omega | exact h _ | refine ⟨?_, ?_⟩ | intro _)
    rw [eqB_f.2 e0]
    by_cases e2 : op = 2
    · subst e2
      have hO : ov1F 2 ts nm rows over = ovF ts nm rows over := by unfold ov1F ovF; rw [if_pos rfl]; exact (ov_min a4 _).symm
      have hV : meansV 2 fr to num ts nm rows l = atomV ts num nm rows := by simp [meansV, hd0, hd1]
      rw [hV, hO] at h
      rw [eqB_t.2 rfl]
      simp only [simpsL, implies_true, forall_const, if_true, if_false, reduceCtorEq, h1, h2, h3, y1, y2, y3, y4]
      repeat' (first | with_reducible rfl | assumption | omega | exact h _ | refine ⟨?_, ?_⟩ | intro _)
    rw [eqB_f.2 e2]
    by_cases e3 : op = 3
    · subst e3
      have hO : ov1F 3 ts nm rows over = over := by simp [ov1F]
      have hV : meansV 3 fr to num ts nm rows l = notV (lenI rows) (nth (.list .bool) l 0) := by simp [meansV, hd0, hd1]
      rw [hV, hO] at h
      rw [eqB_t.2 rfl]
      have b1 : 1 ≤ lenI l := a1 (by omega)
      have b2 := L0 b1
      simp only [simpsL, implies_true, forall_const, if_true, if_false, reduceCtorEq, h1, h2, h3, y1, y2, y3, y4, b2]
      repeat' (first | with_reducible rfl | assumption | omega | exact h _ | refine ⟨?_, ?_⟩ | intro _)
    rw [eqB_f.2 e3]
    by_cases e4 : op = 4
    · subst e4
      have hO : ov1F 4 ts nm rows over = over := by simp [ov1F]
      have hV : meansV 4 fr to num ts nm rows l = notV (lenI rows) (anyV (lenI rows) (l.map (notV (lenI rows)))) := by simp [meansV]
      rw [hV, hO] at h
      rw [eqB_t.2 rfl]
      simp only [simpsL, implies_true, forall_const, if_true, if_false, reduceCtorEq, h1, h3]
      rintro ⟨n', i', nm', rows', over', l', op', na', fr', to', ts', num'⟩ ⟨hk, hx⟩
      dsimp only at hk hx ⊢
      obtain ⟨rfl, rfl, rfl, rfl, rfl, rfl, rfl, rfl, rfl, rfl⟩ := hk
      subst hx
      exact ⟨h1, fun p hp => by rw [List.mem_map] at hp; obtain ⟨q, _, rfl⟩ := hp; exact not_len, h1, any_len, h _⟩
    rw [eqB_f.2 e4]
    by_cases e5 : op = 5
    · subst e5
      have hO : ov1F 5 ts nm rows over = over := by simp [ov1F]
      have hV : meansV 5 fr to num ts nm rows l = anyV (lenI rows) l := by simp [meansV, hd0, hd1]
      rw [hV, hO] at h
      rw [eqB_t.2 rfl]
      simp only [simpsL, implies_true, forall_const, if_true, if_false, reduceCtorEq, h1, h2, h3, y1, y2, y3, y4]
      repeat' (first | with_reducible rfl | assumption | omega | exact h _ | refine ⟨?_, ?_⟩ | intro _)
    rw [eqB_f.2 e5]
    by_cases e6 : op = 6
    · subst e6
      have hO : ov1F 6 ts nm rows over = over := by simp [ov1F]
      have hV : meansV 6 fr to num ts nm rows l = anyV (lenI rows) (notV (lenI rows) (nth (.list .bool) l 0) :: nth (.list .bool) l 1 :: @List.nil (den (.list .bool))) := by simp [meansV, hd0, hd1]
      rw [hV, hO] at h
      rw [eqB_t.2 rfl]
      have b1 : 1 ≤ lenI l := a1 (by omega)
      have b2 := L0 b1
      have b3 : 2 ≤ lenI l := a2 (by omega)
      have b4 := L1 b3
      have b8 : sameR (notV (lenI rows) (nth (.list .bool) l 0) :: nth (.list .bool) l 1 :: @List.nil (den (.list .bool))) (lenI rows) := fun p hp => by
        simp only [List.mem_cons, List.not_mem_nil, or_false] at hp
        rcases hp with rfl | rfl
        · exact not_len
        · exact b4
      simp only [simpsL, implies_true, forall_const, if_true, if_false, reduceCtorEq, h1, h2, h3, y1, y2, y3, y4, b2, b4, b8]
      repeat' (first | with_reducible rfl | assumption | omega | exact h _ | refine ⟨?_, ?_⟩ | intro _)
    rw [eqB_f.2 e6]
    by_cases e7 : op = 7
    · subst e7
      have hO : ov1F 7 ts nm rows over = over := by simp [ov1F]
      have hV : meansV 7 fr to num ts nm rows l = prevV (lenI rows) l := by simp [meansV, hd0, hd1]
      rw [hV, hO] at h
      rw [eqB_t.2 rfl]
      have b1 : 1 ≤ lenI l := a1 (by omega)
      have b2 := L0 b1
      have b7 : headR l (lenI rows) := ⟨b1, b2⟩
      simp only [simpsL, implies_true, forall_const, if_true, if_false, reduceCtorEq, h1, h2, h3, y1, y2, y3, y4, b2, b7]
      repeat' (first | with_reducible rfl | assumption | omega | exact h _ | refine ⟨?_, ?_⟩ | intro _)
    rw [eqB_f.2 e7]
    by_cases e8 : op = 8
    · subst e8
      have hO : ov1F 8 ts nm rows over = over := by simp [ov1F]
      have hV : meansV 8 fr to num ts nm rows l = sinceV (lenI rows) fr to (yesV (lenI rows)) (nth (.list .bool) l 0) := by simp [meansV, hd0, hd1]
      rw [hV, hO] at h
      rw [eqB_t.2 rfl]
      have b1 : 1 ≤ lenI l := a1 (by omega)
      have b2 := L0 b1
      have b5 : 0 ≤ fr := a3 (by omega)
      have b6 : geZ fr := b5
      simp only [simpsL, implies_true, forall_const, if_true, if_false, reduceCtorEq, h1, h2, h3, y1, y2, y3, y4, b2, b6]
      repeat' (first | with_reducible rfl | assumption | omega | exact h _ | refine ⟨?_, ?_⟩ | intro _)
    rw [eqB_f.2 e8]
    by_cases e9 : op = 9
    · subst e9
      have hO : ov1F 9 ts nm rows over = over := by simp [ov1F]
      have hV : meansV 9 fr to num ts nm rows l = notV (lenI rows) (sinceV (lenI rows) fr to (yesV (lenI rows)) (notV (lenI rows) (nth (.list .bool) l 0))) := by simp [meansV, hd0, hd1]
      rw [hV, hO] at h
      rw [eqB_t.2 rfl]
      have b1 : 1 ≤ lenI l := a1 (by omega)
      have b2 := L0 b1
      have b5 : 0 ≤ fr := a3 (by omega)
      have b6 : geZ fr := b5
      simp only [simpsL, implies_true, forall_const, if_true, if_false, reduceCtorEq, h1, h2, h3, y1, y2, y3, y4, b2, b6]
      repeat' (first | with_reducible rfl | assumption | omega | exact h _ | refine ⟨?_, ?_⟩ | intro _)
    rw [eqB_f.2 e9]
    by_cases e10 : op = 10
    · subst e10
      have hO : ov1F 10 ts nm rows over = over := by simp [ov1F]
      have hV : meansV 10 fr to num ts nm rows l = sinceV (lenI rows) fr to (nth (.list .bool) l 0) (nth (.list .bool) l 1) := by simp [meansV, hd0, hd1]
      rw [hV, hO] at h
      rw [eqB_t.2 rfl]
      have b1 : 1 ≤ lenI l := a1 (by omega)
      have b2 := L0 b1
      have b3 : 2 ≤ lenI l := a2 (by omega)
      have b4 := L1 b3
      have b5 : 0 ≤ fr := a3 (by omega)
      have b6 : geZ fr := b5
      simp only [simpsL, implies_true, forall_const, if_true, if_false, reduceCtorEq, h1, h2, h3, y1, y2, y3, y4, b2, b4, b6]
      repeat' (first | with_reducible rfl | assumption | omega | exact h _ | refine ⟨?_, ?_⟩ | intro _)
    rw [eqB_f.2 e10]
    have hV : meansV op fr to num ts nm rows l = notV (lenI rows) (yesV (lenI rows)) := by simp [meansV, e0, e2, e3, e4, e5, e6, e7, e8, e9, e10]
    have hO : ov1F op ts nm rows over = over := by simp [ov1F, e2]
    rw [hV, hO] at h
    simp only [simpsL, implies_true, forall_const, if_true, if_false, reduceCtorEq, h1, y1]
    exact h _
  · exact h.elim
noncomputable def SP_means : List AV → List Blk → AK → Prop := (frameS meansS)
theorem SPok_means : SpecOK Try.prog 60 SP_means := (frame_ok means_ok)
noncomputable def specs_means : Specs := (60, SP_means) :: specs_tatom
theorem specsOK_means : SpecsOK Try.prog specs_means := specsOK_cons SPok_means specsOK_tatom
end Go.Proofs.Ytmdjpohmbkodeaa.Sx

