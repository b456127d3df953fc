/- Atoms: what they come to. -/
import Derived.Test.YtmdjpohmbkodeaaSmTraceB
namespace Go.Proofs.Ytmdjpohmbkodeaa.Sx
open Go.RowKit
set_option maxRecDepth 100000
set_option maxHeartbeats 4000000
set_option linter.unusedVariables false
set_option linter.unusedSimpArgs false
theorem less_val {P S : Int} (h : P - S < 3138550867693340381917894711603833208051177722232017256448 ∧ -3138550867693340381917894711603833208051177722232017256448 ≤ P - S) : lessF (w0 P) (w1 P) (w2 P) (w0 S) (w1 S) (w2 S) = decide (P < S) := by
  unfold lessF w0 w1 w2
  rw [decide_eq_decide]
  omega
abbrev X_atomL := List (den .str) × List (den (.int .i64)) × List (den TermT) × Int × Int × Int × Int × Int × Int × Int × List (den SumT)
def sh_atomL : X_atomL → St := fun x => match x with | (nm, row, ts, len, i, op, na, fr, to, num, l) => ⟨setL (rep .bad 47) [(1, .view [] .str nm), (2, .view [] (.int .i64) row), (13, .view [] TermT ts), (14, .int .i64 len), (15, .int .i64 i), (3, .ptr 0 0), (8, .own 1)], [.var [.int .i64 op, .int .i64 na, .int .i64 fr, .int .i64 to, .view [] TermT ts, .int .i64 num], .row 56 SumT l []], [1, 2, 3], [1, 2, 3]⟩
def sx_atomL : AExit → X_atomL → St := fun _ => sh_atomL
def nx_atomL (σ : St) : X_atomL := (gV .str σ 1, gV (.int .i64) σ 2, gV TermT σ 13, gI σ 14, gI σ 15, cI σ 0 0, cI σ 0 1, cI σ 0 2, cI σ 0 3, cI σ 0 5, rV SumT σ 1)
def Pre_atomL : X_atomL → Prop := fun x => match x with | (nm, row, ts, len, i, op, na, fr, to, num, l) => i = 0 ∧ len = lenI ts ∧ l = [] ∧ fewT ts
def E0_atomL : X_atomL → X_atomL → Prop := fun x y => match x, y with | (nm0, row0, ts0, len0, i0, op0, na0, fr0, to0, num0, l0), (nm, row, ts, len, i, op, na, fr, to, num, l) => (nm = nm0 ∧ row = row0 ∧ ts = ts0 ∧ len = len0 ∧ op = op0 ∧ na = na0 ∧ fr = fr0 ∧ to = to0 ∧ num = num0) ∧ (l = prodL ts nm row)
def R_atomL : X_atomL → X_atomL → Prop := fun x y => match x, y with | (nm0, row0, ts0, len0, i0, op0, na0, fr0, to0, num0, l0), (nm, row, ts, len, i, op, na, fr, to, num, l) => (nm = nm0 ∧ row = row0 ∧ ts = ts0 ∧ len = len0 ∧ op = op0 ∧ na = na0 ∧ fr = fr0 ∧ to = to0 ∧ num = num0) ∧ (False)
def D_atomL : X_atomL → LEnds X_atomL := fun x => ⟨[(0, E0_atomL x)], R_atomL x⟩
noncomputable def S_atomL : Summ := summN sh_atomL sx_atomL nx_atomL Pre_atomL D_atomL
def Inv_atomL : X_atomL → X_atomL → Prop := fun x y => match x, y with | (nm0, row0, ts0, len0, i0, op0, na0, fr0, to0, num0, l0), (nm, row, ts, len, i, op, na, fr, to, num, l) => (nm = nm0 ∧ row = row0 ∧ ts = ts0 ∧ len = len0 ∧ op = op0 ∧ na = na0 ∧ fr = fr0 ∧ to = to0 ∧ num = num0) ∧ ((0 ≤ i ∧ i ≤ len) ∧ l = (ts.take i.toNat).map (prT nm row))
def M_atomL : X_atomL → X_atomL → Nat := fun x y => match x, y with | (nm0, row0, ts0, len0, i0, op0, na0, fr0, to0, num0, l0), (nm, row, ts, len, i, op, na, fr, to, num, l) => (len - i).toNat
theorem body_atomL (Inv : X_atomL → Prop) (meas : X_atomL → Nat) (nn : Nat) (EE0 RR : X_atomL → Prop) (nm : List (den .str)) (row : List (den (.int .i64))) (ts : List (den TermT)) (len : Int) (i : Int) (op : Int) (na : Int) (fr : Int) (to : Int) (num : Int) (l : List (den SumT)) : awp tab fs_value (acall tab fs_value specs_copiedS fns 100 20) [] 100 (loopAt Try.f14 3) (bodyN sh_atomL sx_atomL nx_atomL Inv meas nn ⟨[(0, EE0)], RR⟩) (sh_atomL (nm, row, ts, len, i, op, na, fr, to, num, l)) =
  (ifB (ltB i len) (need (inI i (lenI ts)) (eqI (nth TermT ts i).snd (nth TermT ts i).snd (need (AV.view (@List.nil Nat) Ty.str nm = AV.view (@List.nil Nat) Ty.str
    nm) (need (AV.view (@List.nil Nat) (Ty.int IntKind.i64) row = AV.view (@List.nil Nat) (Ty.int IntKind.i64) row) (eqS (nth TermT ts i).fst (nth TermT ts i).fst (eqI
    (nth TermT ts i).snd (nth TermT ts i).snd (need (fitA (lenI l + 1)) (eqD nm nm (eqD row row (eqD ts ts (eqI len len (eqI (addW IntKind.i64 i 1) (addW IntKind.i64
    i 1) (eqI op op (eqI na na (eqI fr fr (eqI to to (eqD ts ts (eqI num num (eqD (appL l ((w0 (proF (nth TermT ts i).snd (valF nm row (nth TermT ts i).fst)), w1 (proF
    (nth TermT ts i).snd (valF nm row (nth TermT ts i).fst)), w2 (proF (nth TermT ts i).snd (valF nm row (nth TermT ts i).fst))) :: @List.nil (den SumT))) (appL l ((w0
    (proF (nth TermT ts i).snd (valF nm row (nth TermT ts i).fst)), w1 (proF (nth TermT ts i).snd (valF nm row (nth TermT ts i).fst)), w2 (proF (nth TermT ts i).snd
    (valF nm row (nth TermT ts i).fst))) :: @List.nil (den SumT))) (Inv (nm, row, ts, len, addW IntKind.i64 i 1, op, na, fr, to, num, appL l ((w0 (proF (nth TermT ts
    i).snd (valF nm row (nth TermT ts i).fst)), w1 (proF (nth TermT ts i).snd (valF nm row (nth TermT ts i).fst)), w2 (proF (nth TermT ts i).snd (valF nm row (nth TermT
    ts i).fst))) :: @List.nil (den SumT))) ∧ meas (nm, row, ts, len, addW IntKind.i64 i 1, op, na, fr, to, num, appL l ((w0 (proF (nth TermT ts i).snd (valF nm row (nth
    TermT ts i).fst)), w1 (proF (nth TermT ts i).snd (valF nm row (nth TermT ts i).fst)), w2 (proF (nth TermT ts i).snd (valF nm row (nth TermT ts i).fst))) :: @List.nil
    (den SumT))) < nn)))))))))))))))))))) (eqD nm nm (eqD row row (eqD ts ts (eqI len len (eqI i i (eqI op op (eqI na na (eqI fr fr (eqI to to (eqD ts ts (eqI num num
    (eqD l l (EE0 (nm, row, ts, len, i, op, na, fr, to, num, l))))))))))))))) := by kernel_rfl
theorem body_atomL_ok : ∀ x y, Pre_atomL x → Inv_atomL x y → wfS (sh_atomL y) → Hd (awp tab fs_value (acall tab fs_value specs_copiedS fns 100 20) [] 100 (loopAt Try.f14 3) (bodyN sh_atomL sx_atomL nx_atomL (Inv_atomL x) (M_atomL x) (M_atomL x y) (D_atomL x)) (sh_atomL y)) := by
  rintro ⟨nm0, row0, ts0, len0, i0, op0, na0, fr0, to0, num0, l0⟩ ⟨nm, row, ts, len, i, op, na, fr, to, num, l⟩ hp hI hw
  obtain ⟨⟨rfl, rfl, rfl, rfl, rfl, rfl, rfl, rfl, rfl⟩, hI⟩ := hI
  have hw_nm := wfL_view hw 1 rfl
  have hw_row := wfL_view hw 2 rfl
  have hw_ts := wfL_view hw 13 rfl
  have hw_len := wfL_int hw 14 rfl
  have hw_i := wfL_int hw 15 rfl
  have hw_op := wfC_int hw 0 0 rfl
  have hw_na := wfC_int hw 0 1 rfl
  have hw_fr := wfC_int hw 0 2 rfl
  have hw_to := wfC_int hw 0 3 rfl
  have hw_num := wfC_int hw 0 5 rfl
  have hw_l := wfR_row hw 1 rfl
  have hp : i0 = 0 ∧ len = lenI ts ∧ l0 = [] ∧ fewT ts := hp
  unfold D_atomL
  rw [body_atomL]
  refine ⟨?_⟩
  have hInv : ∀ (i : Int) (l : List (den SumT)), ((0 ≤ i ∧ i ≤ len) ∧ l = (ts.take i.toNat).map (prT nm row)) → Inv_atomL (nm, row, ts, len, i0, op, na, fr, to, num, l0) (nm, row, ts, len, i, op, na, fr, to, num, l) := fun _ _ h => ⟨⟨rfl, rfl, rfl, rfl, rfl, rfl, rfl, rfl, rfl⟩, h⟩
  generalize hIe : Inv_atomL (nm, row, ts, len, i0, op, na, fr, to, num, l0) = Inv at hInv ⊢
  have hMe : ∀ (i : Int) (l : List (den SumT)), M_atomL (nm, row, ts, len, i0, op, na, fr, to, num, l0) (nm, row, ts, len, i, op, na, fr, to, num, l) = (len - i).toNat := fun _ _ => rfl
  generalize M_atomL (nm, row, ts, len, i0, op, na, fr, to, num, l0) = Me at hMe ⊢
  have hE0 : ∀ (i : Int) (l : List (den SumT)), (l = prodL ts nm row) → E0_atomL (nm, row, ts, len, i0, op, na, fr, to, num, l0) (nm, row, ts, len, i, op, na, fr, to, num, l) := fun _ _ h => ⟨⟨rfl, rfl, rfl, rfl, rfl, rfl, rfl, rfl, rfl⟩, h⟩
  generalize E0_atomL (nm, row, ts, len, i0, op, na, fr, to, num, l0) = EE0 at hE0 ⊢
  have hR : ∀ (i : Int) (l : List (den SumT)), (False) → R_atomL (nm, row, ts, len, i0, op, na, fr, to, num, l0) (nm, row, ts, len, i, op, na, fr, to, num, l) := fun _ _ h => ⟨⟨rfl, rfl, rfl, rfl, rfl, rfl, rfl, rfl, rfl⟩, h⟩
  generalize R_atomL (nm, row, ts, len, i0, op, na, fr, to, num, l0) = RR at hR ⊢
  obtain ⟨hi, hI⟩ := hI
  obtain ⟨p1, rfl, p3, p4⟩ := hp
  unfold fewT at p4
  have hll : lenI l ≤ 1000 := by
    rw [hI]; unfold lenI at *; rw [List.length_map, List.length_take]; omega
  by_cases hlt : i < lenI ts
  · have ei : addW .i64 i 1 = i + 1 := addW64 (by omega) (by omega)
    have hnx : l ++ [prT nm row (nth TermT ts i)] = (ts.take (i + 1).toNat).map (prT nm row) := by
      rw [take_nth (t := TermT) hi.1 hlt, List.map_append, ← hI]; rfl
    obtain ⟨t1, t2, ht⟩ : ∃ (a : List UInt8) (b : Int), nth TermT ts i = (a, b) := ⟨_, _, rfl⟩
    rw [ltB_t.2 hlt]
    simp only [ht] at hnx ⊢
    unfold prT at hnx
    have hf : fitA (lenI l + 1) := by unfold fitA; omega
    simp only [simpsL, implies_true, forall_const, if_true, if_false, reduceCtorEq, hMe, ei, hf]
    repeat' (first | with_reducible rfl | assumption | omega | (exact hInv _ _ ⟨by omega, hnx⟩) | refine ⟨?_, ?_⟩ | intro _)
  · rw [ltB_f.2 (Int.not_lt.1 hlt)]
    rw [take_all (by omega)] at hI
    simp only [simpsL, implies_true, forall_const, if_true, if_false, reduceCtorEq]
    exact hE0 _ _ hI
theorem summ_atomL : SummOK Try.prog (loopAt Try.f14 3) S_atomL :=
  summN_ok (L := []) (fuel := 100) tabOK fsOK_value (mkCall fsOK_value specsOK_copiedS fnsOK) (fun C => mkDraw fsOK_value (mkCall fsOK_value specsOK_copiedS fnsOK) C) loopsOK_nil Inv_atomL M_atomL
    (fun x hp hw => by
      obtain ⟨nm, row, ts, len, i, op, na, fr, to, num, l⟩ := x
      have hp : i = 0 ∧ len = lenI ts ∧ l = [] ∧ fewT ts := hp
      have hw_nm := wfL_view hw 1 rfl
      have hw_row := wfL_view hw 2 rfl
      have hw_ts := wfL_view hw 13 rfl
      have hw_len := wfL_int hw 14 rfl
      have hw_i := wfL_int hw 15 rfl
      have hw_op := wfC_int hw 0 0 rfl
      have hw_na := wfC_int hw 0 1 rfl
      have hw_fr := wfC_int hw 0 2 rfl
      have hw_to := wfC_int hw 0 3 rfl
      have hw_num := wfC_int hw 0 5 rfl
      have hw_l := wfR_row hw 1 rfl
      obtain ⟨rfl, rfl, rfl, _⟩ := hp
      exact ⟨⟨rfl, rfl, rfl, rfl, rfl, rfl, rfl, rfl, rfl⟩, ⟨by omega, lenI_nn _⟩, rfl⟩)
    (body_atomL_ok)
noncomputable def fns_Atom : Fns := (14, Try.f14, [(3, S_atomL)]) :: fns
theorem fn_Atom : FnOK Try.prog 14 Try.f14 [(3, S_atomL)] := fnOK_loops Try.func14 (fun vs w => Try.call14 vs w) (by kernel_rfl) fun k S h => by
  simp only [List.mem_cons, Prod.mk.injEq, List.not_mem_nil, or_false] at h
  obtain ⟨rfl, rfl⟩ := h
  exact summ_atomL
theorem fns_AtomOK : FnsOK Try.prog fns_Atom := fnsOK_cons fn_Atom fnsOK
noncomputable def AtomS : List AV → OV := fun args => match args with | [.agg [.int .i64 op, .int .i64 nn, .int .i64 fr, .int .i64 to, .view [] (.prod .str (.int .i64)) ts, .int .i64 num], .view [] .str nm, .view [] (.int .i64) row] => some ([fewT ts], .tup [.bool (atomH ts num nm row), .bool (atomO ts nm row)]) | _ => none
theorem Atom_eq (op nn fr to : Int) (ts : List (den TermT)) (num : Int) (nm : List (List UInt8)) (row : List Int) : acall tab fs_value specs_copiedS fns_Atom 100 20 14 [.agg [.int .i64 op, .int .i64 nn, .int .i64 fr, .int .i64 to, .view [] TermT ts, .int .i64 num], .view [] .str nm, .view [] (.int .i64) row] [] (fun o mm _ _ => resN (.any) mm o = .ret (.tup [.bool (atomH ts num nm row), .bool (atomO ts nm row)])) =
  (eqD nm nm (eqD row row (eqD ts ts (eqI (lenI ts) (lenI ts) (eqI 0 0 (eqI op op (eqI nn nn (eqI fr fr (eqI to to (eqD ts ts (eqI num num (eqD (@List.nil (den SumT))
    (@List.nil (den SumT)) (((0 : Int) = 0 ∧ lenI ts = lenI ts ∧ @List.nil (den SumT) = @List.nil (den SumT) ∧ fewT ts) ∧ ((∀ (y : X_atomL), (y.1 = nm ∧ y.2.1 = row
    ∧ y.2.2.1 = ts ∧ y.2.2.2.1 = lenI ts ∧ y.2.2.2.2.2.1 = op ∧ y.2.2.2.2.2.2.1 = nn ∧ y.2.2.2.2.2.2.2.1 = fr ∧ y.2.2.2.2.2.2.2.2.1 = to ∧ y.2.2.2.2.2.2.2.2.2.1 = num)
    ∧ y.2.2.2.2.2.2.2.2.2.2 = prodL y.2.2.1 y.1 y.2.1 → need (rU (w0 (proF 9223372036854775807 4294967296))) (need (rU (w1 (proF 9223372036854775807 4294967296))) (need
    (rU (w2 (proF 9223372036854775807 4294967296))) (need (rU (w0 (sumF y.2.2.2.2.2.2.2.2.2.2))) (need (rU (w1 (sumF y.2.2.2.2.2.2.2.2.2.2))) (need (rU (w2 (sumF y.2.2.2.2.2.2.2.2.2.2)))
    (need (impB (notB (lessF (w0 (proF 9223372036854775807 4294967296)) (w1 (proF 9223372036854775807 4294967296)) (w2 (proF 9223372036854775807 4294967296)) (w0 (sumF
    y.2.2.2.2.2.2.2.2.2.2)) (w1 (sumF y.2.2.2.2.2.2.2.2.2.2)) (w2 (sumF y.2.2.2.2.2.2.2.2.2.2)))) (rU (w0 (sumF y.2.2.2.2.2.2.2.2.2.2)))) (need (impB (notB (lessF (w0
    (proF 9223372036854775807 4294967296)) (w1 (proF 9223372036854775807 4294967296)) (w2 (proF 9223372036854775807 4294967296)) (w0 (sumF y.2.2.2.2.2.2.2.2.2.2)) (w1
    (sumF y.2.2.2.2.2.2.2.2.2.2)) (w2 (sumF y.2.2.2.2.2.2.2.2.2.2)))) (rU (w1 (sumF y.2.2.2.2.2.2.2.2.2.2)))) (need (impB (notB (lessF (w0 (proF 9223372036854775807
    4294967296)) (w1 (proF 9223372036854775807 4294967296)) (w2 (proF 9223372036854775807 4294967296)) (w0 (sumF y.2.2.2.2.2.2.2.2.2.2)) (w1 (sumF y.2.2.2.2.2.2.2.2.2.2))
    (w2 (sumF y.2.2.2.2.2.2.2.2.2.2)))) (rU (w2 (sumF y.2.2.2.2.2.2.2.2.2.2)))) (need (impB (notB (lessF (w0 (proF 9223372036854775807 4294967296)) (w1 (proF 9223372036854775807
    4294967296)) (w2 (proF 9223372036854775807 4294967296)) (w0 (sumF y.2.2.2.2.2.2.2.2.2.2)) (w1 (sumF y.2.2.2.2.2.2.2.2.2.2)) (w2 (sumF y.2.2.2.2.2.2.2.2.2.2)))) (rU
    (w0 (proF (-9223372036854775808) 4294967296)))) (need (impB (notB (lessF (w0 (proF 9223372036854775807 4294967296)) (w1 (proF 9223372036854775807 4294967296)) (w2
    (proF 9223372036854775807 4294967296)) (w0 (sumF y.2.2.2.2.2.2.2.2.2.2)) (w1 (sumF y.2.2.2.2.2.2.2.2.2.2)) (w2 (sumF y.2.2.2.2.2.2.2.2.2.2)))) (rU (w1 (proF (-9223372036854775808)
    4294967296)))) (need (impB (notB (lessF (w0 (proF 9223372036854775807 4294967296)) (w1 (proF 9223372036854775807 4294967296)) (w2 (proF 9223372036854775807 4294967296))
    (w0 (sumF y.2.2.2.2.2.2.2.2.2.2)) (w1 (sumF y.2.2.2.2.2.2.2.2.2.2)) (w2 (sumF y.2.2.2.2.2.2.2.2.2.2)))) (rU (w2 (proF (-9223372036854775808) 4294967296)))) (ifB
    (selB (lessF (w0 (proF 9223372036854775807 4294967296)) (w1 (proF 9223372036854775807 4294967296)) (w2 (proF 9223372036854775807 4294967296)) (w0 (sumF y.2.2.2.2.2.2.2.2.2.2))
    (w1 (sumF y.2.2.2.2.2.2.2.2.2.2)) (w2 (sumF y.2.2.2.2.2.2.2.2.2.2))) true (lessF (w0 (sumF y.2.2.2.2.2.2.2.2.2.2)) (w1 (sumF y.2.2.2.2.2.2.2.2.2.2)) (w2 (sumF y.2.2.2.2.2.2.2.2.2.2))
    (w0 (proF (-9223372036854775808) 4294967296)) (w1 (proF (-9223372036854775808) 4294967296)) (w2 (proF (-9223372036854775808) 4294967296)))) (AOut.ret (AV.tup (AV.bool
    false :: AV.bool true :: @List.nil AV)) = AOut.ret (AV.tup (AV.bool (atomH ts num nm row) :: AV.bool (atomO ts nm row) :: @List.nil AV))) (need (rU (w0 (proF y.2.2.2.2.2.2.2.2.2.1
    4294967296))) (need (rU (w1 (proF y.2.2.2.2.2.2.2.2.2.1 4294967296))) (need (rU (w2 (proF y.2.2.2.2.2.2.2.2.2.1 4294967296))) (need (rU (w0 (sumF y.2.2.2.2.2.2.2.2.2.2)))
    (need (rU (w1 (sumF y.2.2.2.2.2.2.2.2.2.2))) (need (rU (w2 (sumF y.2.2.2.2.2.2.2.2.2.2))) (AOut.ret (AV.tup (AV.bool (notB (lessF (w0 (proF y.2.2.2.2.2.2.2.2.2.1
    4294967296)) (w1 (proF y.2.2.2.2.2.2.2.2.2.1 4294967296)) (w2 (proF y.2.2.2.2.2.2.2.2.2.1 4294967296)) (w0 (sumF y.2.2.2.2.2.2.2.2.2.2)) (w1 (sumF y.2.2.2.2.2.2.2.2.2.2))
    (w2 (sumF y.2.2.2.2.2.2.2.2.2.2)))) :: AV.bool false :: @List.nil AV)) = AOut.ret (AV.tup (AV.bool (atomH ts num nm row) :: AV.bool (atomO ts nm row) :: @List.nil
    AV)))))))))))))))))))))) ∧ True) ∧ ∀ (y : X_atomL), (y.1 = nm ∧ y.2.1 = row ∧ y.2.2.1 = ts ∧ y.2.2.2.1 = lenI ts ∧ y.2.2.2.2.2.1 = op ∧ y.2.2.2.2.2.2.1 = nn ∧ y.2.2.2.2.2.2.2.1
    = fr ∧ y.2.2.2.2.2.2.2.2.1 = to ∧ y.2.2.2.2.2.2.2.2.2.1 = num) ∧ False → AOut.ret (AV.tup (AV.bad :: AV.bad :: @List.nil AV)) = AOut.ret (AV.tup (AV.bool (atomH
    ts num nm row) :: AV.bool (atomO ts nm row) :: @List.nil AV))))))))))))))) := by kernel_rfl
theorem Atom_ok : SpecOK Try.prog 14 (fspecS (pureN [.any, .sl .str, .sl (.int .i64)] AtomS)) := pureN_ok (mkCall fsOK_value specsOK_copiedS fns_AtomOK) (.any) (fun vs w => Try.call14 vs w) fun args ps v h hp hw => by
  unfold AtomS at h
  split at h
  · cases h
    rename_i op nn fr to ts num nm row
    rw [Atom_eq]
    refine ⟨?_⟩
    simp only [allP_cons, allP_nil, and_true] at hp
    simp only [wfAL, wfA, wfS, wfM, wfB, and_true, true_and, wfT_int, wfT_str, wfT_bool, wfT_prod] at hw
    have hfew := hp
    unfold fewT at hfew
    have hwt : wfT (.list TermT) ts := hw.1.2.2.2.2.1
    have hwr : wfT (.list (.int .i64)) row := hw.2.2
    have hb := atom_bound (names := nm) hwr ts hwt
    have h0 := lenI_nn ts
    have hS := w_mod (x := sumF (prodL ts nm row)) (y := atomS ts nm row) (prod_sum ts)
    have hb1 : -85070591730234615865843651857942052864000 ≤ atomS ts nm row ∧ atomS ts nm row ≤ 85070591730234615865843651857942052864000 := by
      unfold atomS; omega
    have hn := has64r hw.1.2.2.2.2.2
    have l1 : lessF (w0 (proF 9223372036854775807 4294967296)) (w1 (proF 9223372036854775807 4294967296)) (w2 (proF 9223372036854775807 4294967296)) (w0 (atomS ts nm row)) (w1 (atomS ts nm row)) (w2 (atomS ts nm row)) = decide (9223372036854775807 * 4294967296 < atomS ts nm row) := less_val (by unfold proF; omega)
    have l2 : lessF (w0 (atomS ts nm row)) (w1 (atomS ts nm row)) (w2 (atomS ts nm row)) (w0 (proF (-9223372036854775808) 4294967296)) (w1 (proF (-9223372036854775808) 4294967296)) (w2 (proF (-9223372036854775808) 4294967296)) = decide (atomS ts nm row < -9223372036854775808 * 4294967296) := less_val (by unfold proF; omega)
    have l3 : lessF (w0 (proF num 4294967296)) (w1 (proF num 4294967296)) (w2 (proF num 4294967296)) (w0 (atomS ts nm row)) (w1 (atomS ts nm row)) (w2 (atomS ts nm row)) = decide (num * 4294967296 < atomS ts nm row) := less_val (by unfold proF; omega)
    simp only [need_def, eqI_def, eqL_def, eqD_def, eqS_def, true_and, and_true, hp, imp_def, false_and, and_false, false_implies, implies_true]
    refine fun y hy => ?_
    obtain ⟨nm', row', ts', len', i', op', na', fr', to', num', l'⟩ := y
    dsimp only at hy ⊢
    obtain ⟨⟨rfl, rfl, rfl, rfl, rfl, rfl, rfl, rfl, rfl⟩, rfl⟩ := hy
    rw [hS.1, hS.2.1, hS.2.2, l1, l2, l3]
    have r0 := fun x => (w_rU x).1
    have r1 := fun x => (w_rU x).2.1
    have r2 := fun x => (w_rU x).2.2
    have hd : (!decide (num' * 4294967296 < atomS ts' nm' row')) = decide (atomS ts' nm' row' ≤ num' * 4294967296) := by
      rw [← decide_not, decide_eq_decide]; omega
    simp only [notB_def, hd]
    unfold atomH atomO
    cases hc1 : decide (9223372036854775807 * 4294967296 < atomS ts' nm' row') <;> cases hc2 : decide (atomS ts' nm' row' < -9223372036854775808 * 4294967296) <;> simp [selB_def, ifB_def, impB_def, r0, r1, r2]
  · cases h
noncomputable def FF_Atom : FSpec := pureN [.any, .sl .str, .sl (.int .i64)] AtomS
theorem FFok_Atom : SpecOK Try.prog 14 (fspecS FF_Atom) := Atom_ok
noncomputable def fs_Atom : FS := (14, FF_Atom) :: fs_value
theorem fsOK_Atom : FSOK Try.prog fs_Atom := fsOK_cons FFok_Atom fsOK_value
end Go.Proofs.Ytmdjpohmbkodeaa.Sx

