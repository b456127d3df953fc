/- What a formula means: the recursion. -/
import Derived.Test.YtmdjpohmbkodeaaSmTraceG
namespace Go.Proofs.Ytmdjpohmbkodeaa.Sx
open Go.RowKit
set_option maxRecDepth 100000
set_option maxHeartbeats 4000000
set_option linter.unusedVariables false
set_option linter.unusedSimpArgs false
def evG (nm : List (List UInt8)) (rows : List (List Int)) : Nat → List (den NodeT) → List Bool
  | 0, _ => []
  | _ + 1, [] => []
  | k + 1, x :: l => meansV x.1 x.2.2.1 x.2.2.2.1 x.2.2.2.2.2 x.2.2.2.2.1 nm rows ((partsF (x :: l)).map (evG nm rows k))
def mO (nm : List (List UInt8)) (rows : List (List Int)) (x : den NodeT) : Int := if x.1 = 2 then ovF x.2.2.2.2.1 nm rows (lenI rows) else lenI rows
def nodeOK (x : den NodeT) : Prop := fewT x.2.2.2.2.1 ∧ (x.1 = 3 ∨ x.1 = 7 ∨ x.1 = 8 ∨ x.1 = 9 → x.2.1 = 1) ∧ (x.1 = 6 ∨ x.1 = 10 → x.2.1 = 2) ∧ (x.1 = 8 ∨ x.1 = 9 ∨ x.1 = 10 → 0 ≤ x.2.2.1)
def evF (n : List (den NodeT)) (nm : List (List UInt8)) (rows : List (List Int)) : List Bool := evG nm rows n.length n
def evsF (ps : List (List (den NodeT))) (nm : List (List UInt8)) (rows : List (List Int)) : List (List Bool) := ps.map fun p => evF p nm rows
def ovL (s : List (den NodeT)) (nm : List (List UInt8)) (rows : List (List Int)) (o : Int) : Int := s.foldl (fun o x => min o (mO nm rows x)) o
def subF (n : List (den NodeT)) (a : Int) : List (den NodeT) := (n.drop a.toNat).take (endF n a - a).toNat
def nextF (n : List (den NodeT)) (a : Int) : Int := a + lenI (subF n a)
def evOK (n : List (den NodeT)) : Prop := (∀ x ∈ n, nodeOK x) ∧ lenI n ≤ 100000
def partOK (n : List (den NodeT)) (a over : Int) (rows : List (List Int)) : Prop := 0 ≤ a ∧ partsB (subF n a) = true ∧ evOK n ∧ over ≤ lenI rows
theorem evG_fuel {nm : List (List UInt8)} {rows : List (List Int)} : ∀ (k j : Nat) (n : List (den NodeT)), n.length ≤ k → n.length ≤ j → evG nm rows k n = evG nm rows j n
  | 0, 0, n, h, _ => rfl
  | 0, j + 1, n, h, _ => by
    have : n = [] := List.length_eq_zero_iff.1 (by omega)
    subst this; rfl
  | k + 1, 0, n, _, h => by
    have : n = [] := List.length_eq_zero_iff.1 (by omega)
    subst this; rfl
  | k + 1, j + 1, [], _, _ => rfl
  | k + 1, j + 1, x :: l, h1, h2 => by
    simp only [evG]
    congr 1
    apply List.map_congr_left
    intro p hp
    have hm := (partsF_mem hp).2.1
    unfold lenI at hm
    exact evG_fuel k j p (by omega) (by omega)
theorem evF_eq {nm : List (List UInt8)} {rows : List (List Int)} (x : den NodeT) (l : List (den NodeT)) : evF (x :: l) nm rows = meansV x.1 x.2.2.1 x.2.2.2.1 x.2.2.2.2.2 x.2.2.2.2.1 nm rows (evsF (partsF (x :: l)) nm rows) := by
  unfold evF evsF
  simp only [List.length_cons, evG]
  congr 1
  apply List.map_congr_left
  intro p hp
  have hm := (partsF_mem hp).2.1
  unfold lenI at hm
  simp only [List.length_cons] at hm
  exact evG_fuel _ _ p (by omega) (Nat.le_refl _)
theorem evF_len {n : List (den NodeT)} {nm : List (List UInt8)} {rows : List (List Int)} (h : partsB n = true) : lenI (evF n nm rows) = lenI rows := by
  cases n with
  | nil => exact absurd rfl (partsB_iff.1 h).1
  | cons x l => rw [evF_eq]; exact means_len
theorem ovL_app {a b : List (den NodeT)} {nm : List (List UInt8)} {rows : List (List Int)} {o : Int} : ovL (a ++ b) nm rows o = ovL b nm rows (ovL a nm rows o) := by unfold ovL; rw [List.foldl_append]
theorem ovL_min {nm : List (List UInt8)} {rows : List (List Int)} : ∀ (s : List (den NodeT)) (o m : Int), ovL s nm rows (min o m) = min (ovL s nm rows o) m
  | [], o, m => rfl
  | x :: s, o, m => by
    show ovL s nm rows (min (min o m) (mO nm rows x)) = min (ovL s nm rows (min o (mO nm rows x))) m
    rw [show min (min o m) (mO nm rows x) = min (min o (mO nm rows x)) m by omega, ovL_min s]
theorem ovL_le {nm : List (List UInt8)} {rows : List (List Int)} : ∀ (s : List (den NodeT)) (o : Int), ovL s nm rows o ≤ o
  | [], o => Int.le_refl _
  | x :: s, o => by
    have := ovL_le (nm := nm) (rows := rows) s (min o (mO nm rows x))
    show ovL s nm rows (min o (mO nm rows x)) ≤ o
    omega
theorem ovL_cons {x : den NodeT} {l : List (den NodeT)} {nm : List (List UInt8)} {rows : List (List Int)} {o : Int} (h : o ≤ lenI rows) : ovL (x :: l) nm rows o = ov1F x.1 x.2.2.2.2.1 nm rows (ovL l nm rows o) := by
  have h1 := ovL_le (nm := nm) (rows := rows) l o
  show ovL l nm rows (min o (mO nm rows x)) = _
  rw [ovL_min]
  unfold ov1F mO
  split <;> omega
theorem sub_eq {n q r : List (den NodeT)} {a : Int} (h0 : 0 ≤ a) (h : n.drop a.toNat = q ++ r) (hq : partsB q = true) : subF n a = q := by
  have hs := (partsB_iff.1 hq).2
  have hne := (partsB_iff.1 hq).1
  have hlen : n.length - a.toNat = q.length + r.length := by rw [← List.length_drop, h, List.length_append]
  have hq0 : 0 < q.length := List.length_pos_iff.2 hne
  have ht := skipT_take hs (L' := lenI n) (by unfold lenI; simp; omega) r
  simp only [List.length_nil, Nat.sub_zero, List.take_length] at ht
  have he : endF n a = a + lenI q := by
    unfold endF
    rw [h, ht]
    simp only [endR]
    unfold lenI
    omega
  unfold subF
  rw [he, h, show (a + lenI q - a).toNat = q.length by unfold lenI; omega, List.take_left]
theorem sub_split {n : List (den NodeT)} {a : Int} (h0 : 0 ≤ a) (hB : partsB (subF n a) = true) : a < lenI n ∧ ∃ tl r, subF n a = nth NodeT n a :: tl ∧ n.drop (a + 1).toNat = tl ++ r := by
  have hne := (partsB_iff.1 hB).1
  have hlt : a < lenI n := by
    by_cases h : a < lenI n
    · exact h
    · exfalso; apply hne
      unfold subF
      rw [drop_all (by omega), List.take_nil]
  refine ⟨hlt, ?_⟩
  unfold subF at hne ⊢
  rw [drop_nth (t := NodeT) h0 hlt] at hne ⊢
  cases hk : (endF n a - a).toNat with
  | zero => rw [hk] at hne; exact absurd rfl hne
  | succ k => exact ⟨_, _, List.take_succ_cons, (List.take_append_drop k _).symm⟩
theorem flat_ge : ∀ {ps : List (List (den NodeT))}, (∀ q ∈ ps, partsB q = true) → lenI ps ≤ lenI ps.flatten
  | [], _ => Int.le_refl _
  | q :: qs, h => by
    have ih := flat_ge (ps := qs) fun x hx => h x (List.mem_cons_of_mem _ hx)
    rw [List.flatten_cons, lenI_app, len_cons]
    have h1 : 0 < q.length := List.length_pos_iff.2 (partsB_iff.1 (h q List.mem_cons_self)).1
    have h2 : lenI q = (q.length : Int) := rfl
    omega
def lt_part (a b : Nat) : Prop := a < b
noncomputable def partR (N : Nat) : List AV → List Blk → AK → Prop := fun args m K => match args, m with | [.ptr 0 0, .view [] (.prod (.int .i64) (.prod (.int .i64) (.prod (.int .i64) (.prod (.int .i64) (.prod (.list (.prod .str (.int .i64))) (.int .i64)))))) n, .int .i64 p], [.var [.view [] .str nm, .view [] (.list (.int .i64)) rows, .int .i64 over]] => need (lt_part ((lenI n - p).toNat) N) (need (oneR (lenI rows)) (need (partOK n p over rows) (K (.ret (.tup [.view [] .bool (evF (subF n p) nm rows), .int .i64 (nextF n p)])) [.var [.view [] .str nm, .view [] (.list (.int .i64)) rows, .int .i64 (ovL (subF n p) nm rows over)]] [] [0]))) | _, _ => False
noncomputable def partS : List AV → List Blk → AK → Prop := fun args m K => match args, m with | [.ptr 0 0, .view [] (.prod (.int .i64) (.prod (.int .i64) (.prod (.int .i64) (.prod (.int .i64) (.prod (.list (.prod .str (.int .i64))) (.int .i64)))))) n, .int .i64 p], [.var [.view [] .str nm, .view [] (.list (.int .i64)) rows, .int .i64 over]] => need (oneR (lenI rows)) (need (partOK n p over rows) (K (.ret (.tup [.view [] .bool (evF (subF n p) nm rows), .int .i64 (nextF n p)])) [.var [.view [] .str nm, .view [] (.list (.int .i64)) rows, .int .i64 (ovL (subF n p) nm rows over)]] [] [0])) | _, _ => False
noncomputable def specsR_part (N : Nat) : Specs := (37, frameS (partR N)) :: specs_means
theorem specsROK_part (N : Nat) (hN : SpecOK Try.prog 37 (partR N)) : SpecsOK Try.prog (specsR_part N) := specsOK_cons (frame_ok hN) specsOK_means
abbrev X_partL := List (den NodeT) × Int × Int × Int × List (den .str) × List (den (.list (.int .i64))) × Int × Int × Int × Int × Int × List (den TermT) × Int × List (den (.list .bool))
def sh_partL : X_partL → St := fun x => match x with | (n, p, c, i, nm, rows, over, op, na, fr, to, ts, num, l) => ⟨setL (rep .bad 38) [(1, .view [] NodeT n), (2, .int .i64 p), (18, .int .i64 c), (19, .int .i64 i), (0, .ptr 0 0), (8, .ptr 1 0), (9, .own 2)], [.var [.view [] .str nm, .view [] (.list (.int .i64)) rows, .int .i64 over], .var [.int .i64 op, .int .i64 na, .int .i64 fr, .int .i64 to, .view [] TermT ts, .int .i64 num], .row 76 (.list .bool) l []], [2, 3], [0, 1, 2, 3]⟩
def sx_partL : AExit → X_partL → St := fun _ => sh_partL
def nx_partL (σ : St) : X_partL := (gV NodeT σ 1, gI σ 2, gI σ 18, gI σ 19, cV .str σ 0 0, cV (.list (.int .i64)) σ 0 1, cI σ 0 2, cI σ 1 0, cI σ 1 1, cI σ 1 2, cI σ 1 3, cV TermT σ 1 4, cI σ 1 5, rV (.list .bool) σ 2)
def Pre_partL (N : Nat) : X_partL → Prop := fun x => match x with | (n, p, c, i, nm, rows, over, op, na, fr, to, ts, num, l) => i = 0 ∧ c = na ∧ l = [] ∧ oneR (lenI rows) ∧ partOK n (p - 1) over rows ∧ nth NodeT n (p - 1) = (op, na, fr, to, ts, num) ∧ lt_part (lenI n - (p - 1)).toNat (N + 1)
def E0_partL : X_partL → X_partL → Prop := fun x y => match x, y with | (n0, p0, c0, i0, nm0, rows0, over0, op0, na0, fr0, to0, ts0, num0, l0), (n, p, c, i, nm, rows, over, op, na, fr, to, ts, num, l) => (n = n0 ∧ c = c0 ∧ nm = nm0 ∧ rows = rows0 ∧ op = op0 ∧ na = na0 ∧ fr = fr0 ∧ to = to0 ∧ ts = ts0 ∧ num = num0) ∧ (p = p0 - 1 + lenI (subF n (p0 - 1)) ∧ l = evsF (partsF (subF n (p0 - 1))) nm rows ∧ over = ovL ((subF n (p0 - 1)).drop 1) nm rows over0)
def R_partL : X_partL → X_partL → Prop := fun x y => match x, y with | (n0, p0, c0, i0, nm0, rows0, over0, op0, na0, fr0, to0, ts0, num0, l0), (n, p, c, i, nm, rows, over, op, na, fr, to, ts, num, l) => (n = n0 ∧ c = c0 ∧ nm = nm0 ∧ rows = rows0 ∧ op = op0 ∧ na = na0 ∧ fr = fr0 ∧ to = to0 ∧ ts = ts0 ∧ num = num0) ∧ (False)
def D_partL : X_partL → LEnds X_partL := fun x => ⟨[(0, E0_partL x)], R_partL x⟩
noncomputable def S_partL (N : Nat) : Summ := summN sh_partL sx_partL nx_partL (Pre_partL N) D_partL
def Inv_partL : X_partL → X_partL → Prop := fun x y => match x, y with | (n0, p0, c0, i0, nm0, rows0, over0, op0, na0, fr0, to0, ts0, num0, l0), (n, p, c, i, nm, rows, over, op, na, fr, to, ts, num, l) => (n = n0 ∧ c = c0 ∧ nm = nm0 ∧ rows = rows0 ∧ op = op0 ∧ na = na0 ∧ fr = fr0 ∧ to = to0 ∧ ts = ts0 ∧ num = num0) ∧ ((0 ≤ i ∧ i ≤ c) ∧ p = p0 + lenI ((partsF (subF n (p0 - 1))).take i.toNat).flatten ∧ l = evsF ((partsF (subF n (p0 - 1))).take i.toNat) nm rows ∧ over = ovL ((partsF (subF n (p0 - 1))).take i.toNat).flatten nm rows over0)
def M_partL : X_partL → X_partL → Nat := fun x y => match x, y with | (n0, p0, c0, i0, nm0, rows0, over0, op0, na0, fr0, to0, ts0, num0, l0), (n, p, c, i, nm, rows, over, op, na, fr, to, ts, num, l) => (c - i).toNat
theorem body_partL (N : Nat) (Inv : X_partL → Prop) (meas : X_partL → Nat) (nn : Nat) (EE0 RR : X_partL → Prop) (n : List (den NodeT)) (p : Int) (c : Int) (i : Int) (nm : List (den .str)) (rows : List (den (.list (.int .i64)))) (over : Int) (op : Int) (na : Int) (fr : Int) (to : Int) (ts : List (den TermT)) (num : Int) (l : List (den (.list .bool))) : awp tab fs_fnAny (acall tab fs_fnAny (specsR_part N) fns 100 20) [] 100 (loopAt Try.f37 5) (bodyN sh_partL sx_partL nx_partL Inv meas nn ⟨[(0, EE0)], RR⟩) (sh_partL (n, p, c, i, nm, rows, over, op, na, fr, to, ts, num, l)) =
  (ifB (ltB i c) (need (lt_part (lenI n - p).toNat N) (need (oneR (lenI rows)) (need (partOK n p over rows) (need (fitA (lenI l + 1)) (eqD n n (eqI (nextF n p) (nextF
    n p) (eqI c c (eqI (addW IntKind.i64 i 1) (addW IntKind.i64 i 1) (eqD nm nm (eqD rows rows (eqI (ovL (subF n p) nm rows over) (ovL (subF n p) nm rows over) (eqI
    op op (eqI na na (eqI fr fr (eqI to to (eqD ts ts (eqI num num (eqD (appL l (evF (subF n p) nm rows :: @List.nil (den Ty.bool.list))) (appL l (evF (subF n p) nm
    rows :: @List.nil (den Ty.bool.list))) (Inv (n, nextF n p, c, addW IntKind.i64 i 1, nm, rows, ovL (subF n p) nm rows over, op, na, fr, to, ts, num, appL l (evF (subF
    n p) nm rows :: @List.nil (den Ty.bool.list))) ∧ meas (n, nextF n p, c, addW IntKind.i64 i 1, nm, rows, ovL (subF n p) nm rows over, op, na, fr, to, ts, num, appL
    l (evF (subF n p) nm rows :: @List.nil (den Ty.bool.list))) < nn))))))))))))))))))) (eqD n n (eqI p p (eqI c c (eqI i i (eqD nm nm (eqD rows rows (eqI over over
    (eqI op op (eqI na na (eqI fr fr (eqI to to (eqD ts ts (eqI num num (eqD l l (EE0 (n, p, c, i, nm, rows, over, op, na, fr, to, ts, num, l))))))))))))))))) := by kernel_rfl
theorem body_partL_ok (N : Nat) (hN : SpecOK Try.prog 37 (partR N)) : ∀ x y, (Pre_partL N) x → Inv_partL x y → wfS (sh_partL y) → Hd (awp tab fs_fnAny (acall tab fs_fnAny (specsR_part N) fns 100 20) [] 100 (loopAt Try.f37 5) (bodyN sh_partL sx_partL nx_partL (Inv_partL x) (M_partL x) (M_partL x y) (D_partL x)) (sh_partL y)) := by
  rintro ⟨n0, p0, c0, i0, nm0, rows0, over0, op0, na0, fr0, to0, ts0, num0, l0⟩ ⟨n, p, c, i, nm, rows, over, op, na, fr, to, ts, num, l⟩ hp hI hw
  obtain ⟨⟨rfl, rfl, rfl, rfl, rfl, rfl, rfl, rfl, rfl, rfl⟩, hI⟩ := hI
  have hw_n := wfL_view hw 1 rfl
  have hw_p := wfL_int hw 2 rfl
  have hw_c := wfL_int hw 18 rfl
  have hw_i := wfL_int hw 19 rfl
  have hw_nm := wfC_view hw 0 0 rfl
  have hw_rows := wfC_view hw 0 1 rfl
  have hw_over := wfC_int hw 0 2 rfl
  have hw_op := wfC_int hw 1 0 rfl
  have hw_na := wfC_int hw 1 1 rfl
  have hw_fr := wfC_int hw 1 2 rfl
  have hw_to := wfC_int hw 1 3 rfl
  have hw_ts := wfC_view hw 1 4 rfl
  have hw_num := wfC_int hw 1 5 rfl
  have hw_l := wfR_row hw 2 rfl
  have hp : i0 = 0 ∧ c = na ∧ l0 = [] ∧ oneR (lenI rows) ∧ partOK n (p0 - 1) over0 rows ∧ nth NodeT n (p0 - 1) = (op, na, fr, to, ts, num) ∧ lt_part (lenI n - (p0 - 1)).toNat (N + 1) := hp
  unfold D_partL
  rw [body_partL]
  refine ⟨?_⟩
  have hInv : ∀ (p : Int) (i : Int) (over : Int) (l : List (den (.list .bool))), ((0 ≤ i ∧ i ≤ c) ∧ p = p0 + lenI ((partsF (subF n (p0 - 1))).take i.toNat).flatten ∧ l = evsF ((partsF (subF n (p0 - 1))).take i.toNat) nm rows ∧ over = ovL ((partsF (subF n (p0 - 1))).take i.toNat).flatten nm rows over0) → Inv_partL (n, p0, c, i0, nm, rows, over0, op, na, fr, to, ts, num, l0) (n, p, c, i, nm, rows, over, op, na, fr, to, ts, num, l) := fun _ _ _ _ h => ⟨⟨rfl, rfl, rfl, rfl, rfl, rfl, rfl, rfl, rfl, rfl⟩, h⟩
  generalize hIe : Inv_partL (n, p0, c, i0, nm, rows, over0, op, na, fr, to, ts, num, l0) = Inv at hInv ⊢
  have hMe : ∀ (p : Int) (i : Int) (over : Int) (l : List (den (.list .bool))), M_partL (n, p0, c, i0, nm, rows, over0, op, na, fr, to, ts, num, l0) (n, p, c, i, nm, rows, over, op, na, fr, to, ts, num, l) = (c - i).toNat := fun _ _ _ _ => rfl
  generalize M_partL (n, p0, c, i0, nm, rows, over0, op, na, fr, to, ts, num, l0) = Me at hMe ⊢
  have hE0 : ∀ (p : Int) (i : Int) (over : Int) (l : List (den (.list .bool))), (p = p0 - 1 + lenI (subF n (p0 - 1)) ∧ l = evsF (partsF (subF n (p0 - 1))) nm rows ∧ over = ovL ((subF n (p0 - 1)).drop 1) nm rows over0) → E0_partL (n, p0, c, i0, nm, rows, over0, op, na, fr, to, ts, num, l0) (n, p, c, i, nm, rows, over, op, na, fr, to, ts, num, l) := fun _ _ _ _ h => ⟨⟨rfl, rfl, rfl, rfl, rfl, rfl, rfl, rfl, rfl, rfl⟩, h⟩
  generalize E0_partL (n, p0, c, i0, nm, rows, over0, op, na, fr, to, ts, num, l0) = EE0 at hE0 ⊢
  have hR : ∀ (p : Int) (i : Int) (over : Int) (l : List (den (.list .bool))), (False) → R_partL (n, p0, c, i0, nm, rows, over0, op, na, fr, to, ts, num, l0) (n, p, c, i, nm, rows, over, op, na, fr, to, ts, num, l) := fun _ _ _ _ h => ⟨⟨rfl, rfl, rfl, rfl, rfl, rfl, rfl, rfl, rfl, rfl⟩, h⟩
  generalize R_partL (n, p0, c, i0, nm, rows, over0, op, na, fr, to, ts, num, l0) = RR at hR ⊢
  obtain ⟨hi, hp1, hl, ho⟩ := hI
  obtain ⟨p1, rfl, p3, p4, p5, p6, p7⟩ := hp
  have hsp := sub_split p5.1 p5.2.1
  obtain ⟨hlt0, tl, r, e1, e2⟩ := hsp
  have hB := p5.2.1
  rw [e1, p6] at hB
  have hs := partsF_spec hB
  rw [e1, p6] at hp1 hl ho
  rw [show p0 - 1 + 1 = p0 by omega] at e2
  obtain ⟨ps, hps⟩ : ∃ ps, partsF ((op, c, fr, to, ts, num) :: tl) = ps := ⟨_, rfl⟩
  rw [hps] at hs hp1 hl ho
  obtain ⟨s1, s2, s3, s4⟩ := hs
  have s2 : lenI ps = c := s2
  have hn := p5.2.2.1.2
  have h0 : 0 ≤ p0 - 1 := p5.1
  have hfl : lenI (ps.take i.toNat).flatten ≤ lenI tl := by
    rw [← s1]
    conv => rhs; rw [← List.take_append_drop i.toNat ps, List.flatten_append, lenI_app]
    have := lenI_nn (ps.drop i.toNat).flatten
    omega
  have hfl0 := lenI_nn (ps.take i.toNat).flatten
  have htl : p0 + lenI tl ≤ lenI n := by
    have := congrArg List.length e2
    rw [List.length_drop, List.length_append] at this
    unfold lenI at *; omega
  have hc : c ≤ lenI tl := by
    rw [← s2, ← s1]
    exact flat_ge s4
  have hll : lenI l = i := by
    rw [hl]; unfold evsF lenI at *; rw [List.length_map, List.length_take]; omega
  by_cases hlt : i < c
  · have ei : addW .i64 i 1 = i + 1 := addW64 (by omega) (by omega)
    have htk := take_nth (t := .list NodeT) (xs := ps) hi.1 (by omega)
    obtain ⟨q, hq⟩ : ∃ q, nth (.list NodeT) ps i = q := ⟨_, rfl⟩
    have hqm : q ∈ ps := by rw [← hq]; exact nth_mem (t := .list NodeT) hi.1 (by omega)
    have hqB := s4 q hqm
    rw [hq] at htk
    have hdrop : n.drop p.toNat = q ++ ((ps.drop (i + 1).toNat).flatten ++ r) := by
      have e3 : ps.flatten = (ps.take i.toNat).flatten ++ (q ++ (ps.drop (i + 1).toNat).flatten) := by
        conv => lhs; rw [← List.take_append_drop i.toNat ps, List.flatten_append, drop_nth (t := .list NodeT) hi.1 (by omega), hq, List.flatten_cons]
      have e4 : p.toNat = p0.toNat + (ps.take i.toNat).flatten.length := by unfold lenI at hp1; omega
      rw [e4, ← List.drop_drop, e2, ← s1, e3, List.append_assoc, List.drop_left, List.append_assoc]
    have hsub : subF n p = q := sub_eq (by omega) hdrop hqB
    have hov := ovL_le (nm := nm) (rows := rows) (ps.take i.toNat).flatten over0
    have hover := p5.2.2.2
    have hP : partOK n p over rows := ⟨by omega, by rw [hsub]; exact hqB, p5.2.2.1, by omega⟩
    have hrk : lt_part (lenI n - p).toNat N := by unfold lt_part at *; omega
    have hfit : fitA (lenI l + 1) := by unfold fitA; omega
    have hnx : nextF n p = p + lenI q := by unfold nextF; rw [hsub]
    have h1 : p + lenI q = p0 + lenI (ps.take (i + 1).toNat).flatten := by
      rw [htk, List.flatten_append, lenI_app, hp1]; simp only [List.flatten_cons, List.flatten_nil, List.append_nil]; omega
    have h2 : l ++ [evF q nm rows] = evsF (ps.take (i + 1).toNat) nm rows := by
      rw [htk, hl]; simp [evsF]
    have h3 : ovL q nm rows over = ovL (ps.take (i + 1).toNat).flatten nm rows over0 := by
      rw [htk, List.flatten_append, ovL_app, ← ho]; simp only [List.flatten_cons, List.flatten_nil, List.append_nil]
    rw [e1, p6, hps] at hInv
    rw [ltB_t.2 hlt]
    simp only [simpsL, implies_true, forall_const, if_true, if_false, reduceCtorEq, hMe, ei, p4, hP, hrk, hfit, hsub, hnx]
    repeat' (first | with_reducible rfl | assumption | omega | (exact hInv _ _ _ _ ⟨by omega, h1, h2, h3⟩) | refine ⟨?_, ?_⟩ | intro _)
  · have hic : i = lenI ps := by omega
    rw [take_all (by omega)] at hp1 hl ho
    rw [s1] at hp1 ho
    rw [ltB_f.2 (Int.not_lt.1 hlt)]
    simp only [simpsL, implies_true, forall_const, if_true, if_false, reduceCtorEq]
    refine hE0 _ _ _ _ ⟨?_, ?_, ?_⟩
    · rw [e1, len_cons]; omega
    · rw [e1, p6, hps]; exact hl
    · rw [e1]; exact ho
theorem summ_partL (N : Nat) (hN : SpecOK Try.prog 37 (partR N)) : SummOK Try.prog (loopAt Try.f37 5) (S_partL N) :=
  summN_ok (L := []) (fuel := 100) tabOK fsOK_fnAny (mkCall fsOK_fnAny (specsROK_part N hN) fnsOK) (fun C => mkDraw fsOK_fnAny (mkCall fsOK_fnAny (specsROK_part N hN) fnsOK) C) loopsOK_nil Inv_partL M_partL
    (fun x hp hw => by
      obtain ⟨n, p, c, i, nm, rows, over, op, na, fr, to, ts, num, l⟩ := x
      have hp : i = 0 ∧ c = na ∧ l = [] ∧ oneR (lenI rows) ∧ partOK n (p - 1) over rows ∧ nth NodeT n (p - 1) = (op, na, fr, to, ts, num) ∧ lt_part (lenI n - (p - 1)).toNat (N + 1) := hp
      have hw_n := wfL_view hw 1 rfl
      have hw_p := wfL_int hw 2 rfl
      have hw_c := wfL_int hw 18 rfl
      have hw_i := wfL_int hw 19 rfl
      have hw_nm := wfC_view hw 0 0 rfl
      have hw_rows := wfC_view hw 0 1 rfl
      have hw_over := wfC_int hw 0 2 rfl
      have hw_op := wfC_int hw 1 0 rfl
      have hw_na := wfC_int hw 1 1 rfl
      have hw_fr := wfC_int hw 1 2 rfl
      have hw_to := wfC_int hw 1 3 rfl
      have hw_ts := wfC_view hw 1 4 rfl
      have hw_num := wfC_int hw 1 5 rfl
      have hw_l := wfR_row hw 2 rfl
      obtain ⟨rfl, rfl, rfl, h1, h2, h3, h4⟩ := hp
      have hB := (sub_split h2.1 h2.2.1)
      obtain ⟨_, tl, r, e1, e2⟩ := hB
      have hB := h2.2.1
      rw [e1, h3] at hB
      have hs := partsF_spec hB
      refine ⟨⟨rfl, rfl, rfl, rfl, rfl, rfl, rfl, rfl, rfl, rfl⟩, ⟨by omega, hs.2.2.1⟩, ?_, rfl, rfl⟩
      show p = p + lenI (@List.nil (den NodeT))
      rw [lenI_nil]; omega)
    (body_partL_ok N hN)
noncomputable def fns_part (N : Nat) : Fns := (37, Try.f37, [(5, (S_partL N))]) :: fns
theorem fn_part (N : Nat) (hN : SpecOK Try.prog 37 (partR N)) : FnOK Try.prog 37 Try.f37 [(5, (S_partL N))] := fnOK_loops Try.func37 (fun vs w => Try.call37 vs w) (by kernel_rfl) fun k S h => by
  simp only [List.mem_cons, Prod.mk.injEq, List.not_mem_nil, or_false] at h
  obtain ⟨rfl, rfl⟩ := h
  exact (summ_partL N hN)
theorem fns_partOK (N : Nat) (hN : SpecOK Try.prog 37 (partR N)) : FnsOK Try.prog (fns_part N) := fnsOK_cons (fn_part N hN) fnsOK
theorem part_eq (N : Nat) (K : AK) (n : List (den NodeT)) (p : Int) (nm : List (List UInt8)) (rows : List (List Int)) (over : Int) : acall tab fs_fnAny specs_means (fns_part N) 100 20 37 [.ptr 0 0, .view [] NodeT n, .int .i64 p] [.var [.view [] .str nm, .view [] (.list (.int .i64)) rows, .int .i64 over]] (frzK (mlen [.var [.view [] .str nm, .view [] (.list (.int .i64)) rows, .int .i64 over]]) (.any) [] [0] K) =
  (need (inI p (lenI n)) (eqD n n (eqI (addW IntKind.i64 p 1) (addW IntKind.i64 p 1) (eqI (nth NodeT n p).snd.fst (nth NodeT n p).2.1 (eqI 0 0 (eqD nm nm (eqD rows
    rows (eqI over over (eqI (nth NodeT n p).fst (nth NodeT n p).1 (eqI (nth NodeT n p).snd.fst (nth NodeT n p).2.1 (eqI (nth NodeT n p).snd.snd.fst (nth NodeT n p).2.2.1
    (eqI (nth NodeT n p).snd.snd.snd.fst (nth NodeT n p).2.2.2.1 (eqD (nth NodeT n p).2.2.2.2.1 (nth NodeT n p).2.2.2.2.1 (eqI (nth NodeT n p).snd.snd.snd.snd.snd (nth
    NodeT n p).2.2.2.2.2 (eqD (@List.nil (den Ty.bool.list)) (@List.nil (den Ty.bool.list)) (((0 : Int) = 0 ∧ (nth NodeT n p).2.1 = (nth NodeT n p).2.1 ∧ @List.nil (den
    Ty.bool.list) = @List.nil (den Ty.bool.list) ∧ oneR (lenI rows) ∧ partOK n (addW IntKind.i64 p 1 - 1) over rows ∧ nth NodeT n (addW IntKind.i64 p 1 - 1) = ((nth
    NodeT n p).1, (nth NodeT n p).2.1, (nth NodeT n p).2.2.1, (nth NodeT n p).2.2.2.1, (nth NodeT n p).2.2.2.2.1, (nth NodeT n p).2.2.2.2.2) ∧ lt_part (lenI n - (addW
    IntKind.i64 p 1 - 1)).toNat N.succ) ∧ ((∀ (y : X_partL), (y.1 = n ∧ y.2.2.1 = (nth NodeT n p).2.1 ∧ y.2.2.2.2.1 = nm ∧ y.2.2.2.2.2.1 = rows ∧ y.2.2.2.2.2.2.2.1 =
    (nth NodeT n p).1 ∧ y.2.2.2.2.2.2.2.2.1 = (nth NodeT n p).2.1 ∧ y.2.2.2.2.2.2.2.2.2.1 = (nth NodeT n p).2.2.1 ∧ y.2.2.2.2.2.2.2.2.2.2.1 = (nth NodeT n p).2.2.2.1
    ∧ y.2.2.2.2.2.2.2.2.2.2.2.1 = (nth NodeT n p).2.2.2.2.1 ∧ y.2.2.2.2.2.2.2.2.2.2.2.2.1 = (nth NodeT n p).2.2.2.2.2) ∧ y.2.1 = addW IntKind.i64 p 1 - 1 + lenI (subF
    y.1 (addW IntKind.i64 p 1 - 1)) ∧ y.2.2.2.2.2.2.2.2.2.2.2.2.2 = evsF (partsF (subF y.1 (addW IntKind.i64 p 1 - 1))) y.2.2.2.2.1 y.2.2.2.2.2.1 ∧ y.2.2.2.2.2.2.1 =
    ovL (List.drop 1 (subF y.1 (addW IntKind.i64 p 1 - 1))) y.2.2.2.2.1 y.2.2.2.2.2.1 over → need (oneR (lenI y.2.2.2.2.2.1)) (need (fewT y.2.2.2.2.2.2.2.2.2.2.2.1)
    (need (sameR y.2.2.2.2.2.2.2.2.2.2.2.2.2 (lenI y.2.2.2.2.2.1)) (need (meansOK y.2.2.2.2.2.2.2.1 y.2.2.2.2.2.2.2.2.2.1 y.2.2.2.2.2.2.1 y.2.2.2.2.2.1 y.2.2.2.2.2.2.2.2.2.2.2.2.2)
    (∀ (l' : List (List Bool)), K (AOut.ret (AV.tup (AV.view (@List.nil Nat) Ty.bool (meansV y.2.2.2.2.2.2.2.1 y.2.2.2.2.2.2.2.2.2.1 y.2.2.2.2.2.2.2.2.2.2.1 y.2.2.2.2.2.2.2.2.2.2.2.2.1
    y.2.2.2.2.2.2.2.2.2.2.2.1 y.2.2.2.2.1 y.2.2.2.2.2.1 y.2.2.2.2.2.2.2.2.2.2.2.2.2) :: AV.int IntKind.i64 y.2.1 :: @List.nil AV))) (Blk.var (AV.view (@List.nil Nat)
    Ty.str y.2.2.2.2.1 :: AV.view (@List.nil Nat) (Ty.int IntKind.i64).list y.2.2.2.2.2.1 :: AV.int IntKind.i64 (ov1F y.2.2.2.2.2.2.2.1 y.2.2.2.2.2.2.2.2.2.2.2.1 y.2.2.2.2.1
    y.2.2.2.2.2.1 y.2.2.2.2.2.2.1) :: @List.nil AV) :: @List.nil Blk) (@List.nil Nat) (0 :: @List.nil Nat)))))) ∧ True) ∧ ∀ (y : X_partL), (y.1 = n ∧ y.2.2.1 = (nth
    NodeT n p).2.1 ∧ y.2.2.2.2.1 = nm ∧ y.2.2.2.2.2.1 = rows ∧ y.2.2.2.2.2.2.2.1 = (nth NodeT n p).1 ∧ y.2.2.2.2.2.2.2.2.1 = (nth NodeT n p).2.1 ∧ y.2.2.2.2.2.2.2.2.2.1
    = (nth NodeT n p).2.2.1 ∧ y.2.2.2.2.2.2.2.2.2.2.1 = (nth NodeT n p).2.2.2.1 ∧ y.2.2.2.2.2.2.2.2.2.2.2.1 = (nth NodeT n p).2.2.2.2.1 ∧ y.2.2.2.2.2.2.2.2.2.2.2.2.1
    = (nth NodeT n p).2.2.2.2.2) ∧ False → K (AOut.ret (AV.tup (AV.bad :: AV.bad :: @List.nil AV))) (Blk.var (AV.view (@List.nil Nat) Ty.str y.2.2.2.2.1 :: AV.view (@List.nil
    Nat) (Ty.int IntKind.i64).list y.2.2.2.2.2.1 :: AV.int IntKind.i64 y.2.2.2.2.2.2.1 :: @List.nil AV) :: @List.nil Blk) (@List.nil Nat) (0 :: @List.nil Nat))))))))))))))))) := by kernel_rfl
theorem part_step (N : Nat) (hN : SpecOK Try.prog 37 (partR N)) : SpecOK Try.prog 37 (partR (N + 1)) := specOKF_of (mkCall fsOK_fnAny specsOK_means (fns_partOK N hN)) (.any) [] [0] (fun vs w => Try.call37 vs w) fun args m K h hw hwm => by
  unfold partR at h
  split at h
  · rename_i n p nm rows over
    rw [part_eq]
    refine ⟨?_⟩
    simp only [wfAL, wfA, wfS, wfM, wfB, and_true, true_and, wfT_int, wfT_str, wfT_bool, wfT_prod] at hw hwm
    obtain ⟨hrk, h1, h2, h⟩ := h
    have hsp := sub_split h2.1 h2.2.1
    obtain ⟨hlt0, tl, r, e1, e2⟩ := hsp
    have hnd : nodeOK (nth NodeT n p) := h2.2.2.1.1 _ (nth_mem (t := NodeT) h2.1 hlt0)
    have hp0 := h2.1
    have hn := h2.2.2.1.2
    have hover := h2.2.2.2
    have hB := h2.2.1
    have hbody : ∀ x ∈ partsF (subF n p), partsB x = true := fun x hx => (partsF_mem hx).2.2
    obtain ⟨op, na, fr, to, ts, num, hx⟩ : ∃ (q1 q2 q3 q4 : Int) (q5 : List (den TermT)) (q6 : Int), nth NodeT n p = (q1, q2, q3, q4, q5, q6) := ⟨_, _, _, _, _, _, rfl⟩
    have hlen : lenI (partsF (subF n p)) = na := by
      rw [e1, hx] at hB ⊢
      exact (partsF_spec hB).2.1
    have e0 : addW .i64 p 1 = p + 1 := addW64 (by omega) (by omega)
    have em : p + 1 - 1 = p := by omega
    have hE : evF (subF n p) nm rows = meansV op fr to num ts nm rows (evsF (partsF (subF n p)) nm rows) := by
      rw [e1, evF_eq, hx]
    have hO : ovL (subF n p) nm rows over = ov1F op ts nm rows (ovL ((subF n p).drop 1) nm rows over) := by
      rw [e1, ovL_cons hover, hx]; rfl
    have hN : nextF n p = p + lenI (subF n p) := rfl
    rw [hE, hO, hN] at h
    rw [hx] at hnd
    obtain ⟨n1, n2, n3, n4⟩ := hnd
    have hov := ovL_le (nm := nm) (rows := rows) ((subF n p).drop 1) over
    have hlv : lenI (evsF (partsF (subF n p)) nm rows) = na := by rw [← hlen]; unfold evsF lenI; rw [List.length_map]
    have hsame : sameR (evsF (partsF (subF n p)) nm rows) (lenI rows) := fun q hq => by
      unfold evsF at hq
      rw [List.mem_map] at hq
      obtain ⟨x, hx, rfl⟩ := hq
      exact evF_len (hbody x hx)
    have hM : meansOK op fr (ovL ((subF n p).drop 1) nm rows over) rows (evsF (partsF (subF n p)) nm rows) := by
      dsimp only at n2 n3 n4
      refine ⟨fun hop => ?_, fun hop => ?_, n4, by omega⟩
      · rw [hlv]
        rcases hop with h | h | h | h | h | h
        · have : na = 1 := n2 (.inl h); omega
        · have : na = 2 := n3 (.inl h); omega
        · have : na = 1 := n2 (.inr (.inl h)); omega
        · have : na = 1 := n2 (.inr (.inr (.inl h))); omega
        · have : na = 1 := n2 (.inr (.inr (.inr h))); omega
        · have : na = 2 := n3 (.inr h); omega
      · rw [hlv]; have : na = 2 := n3 hop; omega
    have n1' : fewT ts := n1
    simp only [hx, e0, em]
    simp only [need_def, inI_def, eqI_def, eqD_def, eqL_def, true_and, and_true, h1, h2, hp0, hlt0, and_false, false_implies, implies_true]
    refine ⟨hrk, fun y hy => ?_⟩
    obtain ⟨n', p', c', i', nm', rows', over', op', na', fr', to', ts', num', l'⟩ := y
    dsimp only at hy ⊢
    obtain ⟨⟨rfl, rfl, rfl, rfl, rfl, rfl, rfl, rfl, rfl, rfl⟩, rfl, rfl, rfl⟩ := hy
    exact ⟨h1, n1', hsame, hM, fun _ => h⟩
  · exact h.elim
theorem part_zero : SpecOK Try.prog 37 (partR 0) := ⟨fun vs w => Try.call37 vs w, fun {args m K} hS => by
  unfold partR at hS
  split at hS
  · exact absurd hS.1 (Nat.not_lt_zero _)
  · exact hS.elim⟩
theorem part_all : ∀ N : Nat, SpecOK Try.prog 37 (partR N)
  | 0 => part_zero
  | N + 1 => part_step N (part_all N)
theorem part_ok : SpecOK Try.prog 37 partS := recS_ok part_all fun args m K h => by
  unfold partS at h
  split at h
  · rename_i n p nm rows over
    exact ⟨((lenI n - p).toNat) + 1, Nat.lt_succ_self _, h⟩
  · exact h.elim
noncomputable def SP_part : List AV → List Blk → AK → Prop := frameS partS
theorem SPok_part : SpecOK Try.prog 37 SP_part := frame_ok part_ok
noncomputable def specs_part : Specs := (37, SP_part) :: specs_means
theorem specsOK_part : SpecsOK Try.prog specs_part := specsOK_cons SPok_part specsOK_means
end Go.Proofs.Ytmdjpohmbkodeaa.Sx

