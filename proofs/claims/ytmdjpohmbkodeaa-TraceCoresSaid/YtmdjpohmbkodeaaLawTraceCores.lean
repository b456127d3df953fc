/- Ytmdjpohmbkodeaa: the law TraceCores returns true for every input, and its arguments read as they did: no condition. -/
import Derived.Test.YtmdjpohmbkodeaaRows
import Derived.Test.YtmdjpohmbkodeaaSxV
import Derived.Test.YtmdjpohmbkodeaaSmTraceP
import Derived.Test.YtmdjpohmbkodeaaSmTraceZ
import Derived.HandedShaped
namespace Go.Proofs.Ytmdjpohmbkodeaa
open Go.ChangeShapes Go.WideShapes Go.ChangeAt Go.RowKit Sx
set_option maxRecDepth 100000
set_option linter.unusedVariables false
set_option linter.unusedSimpArgs false
set_option maxHeartbeats 4000000

abbrev X_cores := List (den (.int .i64)) × List (den (.int .i64)) × Int × Bool
def sh_cores : X_cores → St := fun x => match x with | (l, m, i, r) => ⟨setL (rep .bad 82) [(7, .view [] (.int .i64) l), (11, .view [] (.int .i64) m), (13, .int .i64 i)], [], [0, 1, 2], [0, 1, 2]⟩
def shr_cores : X_cores → St := fun x => match x with | (l, m, i, r) => ⟨setL (rep .bad 82) [(7, .view [] (.int .i64) l), (11, .view [] (.int .i64) m), (13, .int .i64 i), (6, .bool r)], [], [0, 1, 2], [0, 1, 2]⟩
def sx_cores : AExit → X_cores → St := fun e => match e with | .ret => shr_cores | _ => sh_cores
def nx_cores (σ : St) : X_cores := (gV (.int .i64) σ 7, gV (.int .i64) σ 11, gI σ 13, gB σ 6)
def Pre_cores : X_cores → Prop := fun x => match x with | (l, m, i, r) => i = 0 ∧ coresOK l m ∧ lenI m = lenI l
def E0_cores : X_cores → X_cores → Prop := fun x y => match x, y with | (l0, m0, i0, r0), (l, m, i, r) => (l = l0 ∧ m = m0) ∧ (True)
def R_cores : X_cores → X_cores → Prop := fun x y => match x, y with | (l0, m0, i0, r0), (l, m, i, r) => (l = l0 ∧ m = m0) ∧ (False)
def D_cores : X_cores → LEnds X_cores := fun x => ⟨[(0, E0_cores x)], R_cores x⟩
noncomputable def S_cores : Summ := summN sh_cores sx_cores nx_cores Pre_cores D_cores
def Inv_cores : X_cores → X_cores → Prop := fun x y => match x, y with | (l0, m0, i0, r0), (l, m, i, r) => (l = l0 ∧ m = m0) ∧ (0 ≤ i ∧ i ≤ lenI l)
def M_cores : X_cores → X_cores → Nat := fun x y => match x, y with | (l0, m0, i0, r0), (l, m, i, r) => (lenI l - i).toNat
theorem body_cores (Inv : X_cores → Prop) (meas : X_cores → Nat) (nn : Nat) (EE0 RR : X_cores → Prop) (l : List (den (.int .i64))) (m : List (den (.int .i64))) (i : Int) (r : Bool) : awp tab fs_alive (acall tab fs_alive specs_part fns 100 20) [] 100 (loopAt Try.f10 11) (bodyN sh_cores sx_cores nx_cores Inv meas nn ⟨[(0, EE0)], RR⟩) (sh_cores (l, m, i, r)) =
  (ifB (ltB i (lenI l)) (need (inI i (lenI l)) (need (impB (notB (eqB (nth (Ty.int IntKind.i64) l i) 2)) (inI i (lenI l))) (need (impB (notB (eqB (nth (Ty.int IntKind.i64)
    l i) 2)) (inI i (lenI m))) (ifB (selB (notB (eqB (nth (Ty.int IntKind.i64) l i) 2)) (notB (eqB (nth (Ty.int IntKind.i64) l i) (nth (Ty.int IntKind.i64) m i))) false)
    (eqL false false (eqD l l (eqD m m (eqI i i (RR (l, m, i, false)))))) (eqD l l (eqD m m (eqI (addW IntKind.i64 i 1) (addW IntKind.i64 i 1) (Inv (l, m, addW IntKind.i64
    i 1, false) ∧ meas (l, m, addW IntKind.i64 i 1, false) < nn)))))))) (eqD l l (eqD m m (eqI i i (EE0 (l, m, i, false)))))) := by kernel_rfl
theorem body_cores_ok : ∀ x y, Pre_cores x → Inv_cores x y → wfS (sh_cores y) → Hd (awp tab fs_alive (acall tab fs_alive specs_part fns 100 20) [] 100 (loopAt Try.f10 11) (bodyN sh_cores sx_cores nx_cores (Inv_cores x) (M_cores x) (M_cores x y) (D_cores x)) (sh_cores y)) := by
  rintro ⟨l0, m0, i0, r0⟩ ⟨l, m, i, r⟩ hp hI hw
  obtain ⟨⟨rfl, rfl⟩, hI⟩ := hI
  have hw_l := wfL_view hw 7 rfl
  have hw_m := wfL_view hw 11 rfl
  have hw_i := wfL_int hw 13 rfl
  have hp : i0 = 0 ∧ coresOK l m ∧ lenI m = lenI l := hp
  unfold D_cores
  rw [body_cores]
  refine ⟨?_⟩
  have hInv : ∀ (i : Int) (r : Bool), (0 ≤ i ∧ i ≤ lenI l) → Inv_cores (l, m, i0, r0) (l, m, i, r) := fun _ _ h => ⟨⟨rfl, rfl⟩, h⟩
  generalize hIe : Inv_cores (l, m, i0, r0) = Inv at hInv ⊢
  have hMe : ∀ (i : Int) (r : Bool), M_cores (l, m, i0, r0) (l, m, i, r) = (lenI l - i).toNat := fun _ _ => rfl
  generalize M_cores (l, m, i0, r0) = Me at hMe ⊢
  have hE0 : ∀ (i : Int) (r : Bool), (True) → E0_cores (l, m, i0, r0) (l, m, i, r) := fun _ _ h => ⟨⟨rfl, rfl⟩, h⟩
  generalize E0_cores (l, m, i0, r0) = EE0 at hE0 ⊢
  have hR : ∀ (i : Int) (r : Bool), (False) → R_cores (l, m, i0, r0) (l, m, i, r) := fun _ _ h => ⟨⟨rfl, rfl⟩, h⟩
  generalize R_cores (l, m, i0, r0) = RR at hR ⊢
  obtain ⟨p1, p2, p3⟩ := hp
  by_cases hlt : i < lenI l
  · have hlen := wfT_len hw_l
    have ei : addW .i64 i 1 = i + 1 := addW64 (by omega) (by omega)
    have h1 := p2 i hI.1 hlt
    have j0 : inI i (lenI l) := ⟨hI.1, by omega⟩
    have j1 : inI i (lenI m) := ⟨hI.1, by omega⟩
    rw [ltB_t.2 hlt]
    by_cases h2 : nth (.int .i64) l i = 2
    · rw [eqB_t.2 h2]
      simp only [simpsL, implies_true, forall_const, if_true, if_false, reduceCtorEq, j0, j1, ei, hMe]
      repeat' (first | with_reducible rfl | assumption | omega | (exact hInv _ _ ⟨by omega, by omega⟩) | refine ⟨?_, ?_⟩ | intro _)
    · rw [eqB_f.2 h2, eqB_t.2 (h1 h2)]
      simp only [simpsL, implies_true, forall_const, if_true, if_false, reduceCtorEq, j0, j1, ei, hMe]
      repeat' (first | with_reducible rfl | assumption | omega | (exact hInv _ _ ⟨by omega, by omega⟩) | refine ⟨?_, ?_⟩ | intro _)
  · rw [ltB_f.2 (Int.not_lt.1 hlt)]
    simp only [simpsL, implies_true, forall_const, if_true, if_false, reduceCtorEq]
    exact hE0 _ _ trivial
theorem summ_cores : SummOK Try.prog (loopAt Try.f10 11) S_cores :=
  summN_ok (L := []) (fuel := 100) tabOK fsOK_alive (mkCall fsOK_alive specsOK_part fnsOK) (fun C => mkDraw fsOK_alive (mkCall fsOK_alive specsOK_part fnsOK) C) loopsOK_nil Inv_cores M_cores
    (fun x hp hw => by
      obtain ⟨l, m, i, r⟩ := x
      have hp : i = 0 ∧ coresOK l m ∧ lenI m = lenI l := hp
      have hw_l := wfL_view hw 7 rfl
      have hw_m := wfL_view hw 11 rfl
      have hw_i := wfL_int hw 13 rfl
      obtain ⟨rfl, _⟩ := hp
      exact ⟨⟨rfl, rfl⟩, by omega, lenI_nn _⟩)
    (body_cores_ok)
noncomputable def fns_LTraceCores : Fns := (10, Try.f10, [(11, S_cores)]) :: fns
theorem fn_LTraceCores : FnOK Try.prog 10 Try.f10 [(11, S_cores)] := fnOK_loops Try.func10 (fun vs w => Try.call10 vs w) (by kernel_rfl) fun k S h => by
  simp only [List.mem_cons, Prod.mk.injEq, List.not_mem_nil, or_false] at h
  obtain ⟨rfl, rfl⟩ := h
  exact summ_cores
theorem fns_LTraceCoresOK : FnsOK Try.prog fns_LTraceCores := fnsOK_cons fn_LTraceCores fnsOK
theorem TraceCores_eq (n : List (den NodeT)) (nm : List (den .str)) (rows : List (den (.list (.int .i64)))) : acall tab fs_alive specs_part fns_LTraceCores 100 20 10 [.view [] NodeT n, .view [] .str nm, .view [] (.list (.int .i64)) rows] [] (fun o _ _ _ => o = .ret (.bool true)) =
  (ifB (selB (notB (lightF n)) true (notB (rowsB rows nm))) (AOut.ret (AV.bool true) = AOut.ret (AV.bool true)) (need (midN n) (need (oneR (lenI rows)) (ifB (selB (notB
    (eqB (rightE n) 0)) true (notB (eqB (normErr n) 0))) (AOut.ret (AV.bool true) = AOut.ret (AV.bool true)) (need (midN (normOf n)) (need (oneR (lenI rows)) (ifB (selB
    (notB (eqB (rightE (normOf n)) 0)) true (notB (eqB (lenI (allL (normOf n) nm rows)) (lenI (allL n nm rows))))) (AOut.ret (AV.bool false) = AOut.ret (AV.bool true))
    (eqD (allL n nm rows) (allL n nm rows) (eqD (allL (normOf n) nm rows) (allL (normOf n) nm rows) (eqI 0 0 (((0 : Int) = 0 ∧ coresOK (allL n nm rows) (allL (normOf
    n) nm rows) ∧ lenI (allL (normOf n) nm rows) = lenI (allL n nm rows)) ∧ ((∀ (y : X_cores), (y.1 = allL n nm rows ∧ y.2.1 = allL (normOf n) nm rows) ∧ True → AOut.ret
    (AV.bool true) = AOut.ret (AV.bool true)) ∧ True) ∧ ∀ (y : X_cores), (y.1 = allL n nm rows ∧ y.2.1 = allL (normOf n) nm rows) ∧ False → AOut.ret (AV.bool y.2.2.2)
    = AOut.ret (AV.bool true)))))))))))) := by kernel_rfl
theorem TraceCores_call : CallOK Try.prog (acall tab fs_alive specs_part fns_LTraceCores 100 20) := mkCall fsOK_alive specsOK_part fns_LTraceCoresOK
theorem TraceCores_go (n : List (den NodeT)) (nm : List (den .str)) (rows : List (den (.list (.int .i64)))) : LawEv (acall tab fs_alive specs_part fns_LTraceCores 100 20) 10 [.view [] NodeT n, .view [] .str nm, .view [] (.list (.int .i64)) rows] := by
  refine ⟨?_⟩
  rw [TraceCores_eq]
  rw [ifB_def]
  refine ⟨fun _ => rfl, fun hg => ?_⟩
  simp only [selB_t, notB_def, Bool.or_eq_false_iff, Bool.not_eq_false'] at hg
  obtain ⟨g1, g2⟩ := hg
  have hlen := light_len g1
  have mn : midN n := by unfold midN; omega
  have hro : oneR (lenI rows) := by
    unfold rowsB at g2
    simp only [Bool.and_eq_true, decide_eq_true_eq] at g2
    unfold oneR; omega
  by_cases e : rightE n = 0
  · by_cases f : normErr n = 0
    · have hv : validF n = true ∧ rangesF n = true ∧ lenI (normF n) ≤ 600 := by
        unfold normErr at f
        by_cases k1 : validF n = false
        · rw [if_pos k1] at f; cases f
        · rw [if_neg k1] at f
          by_cases k2 : rangesF n = false
          · rw [if_pos k2] at f; cases f
          · rw [if_neg k2] at f
            by_cases k3 : 600 < lenI (normF n)
            · rw [if_pos k3] at f; cases f
            · exact ⟨by simpa using k1, by simpa using k2, by omega⟩
      have en : normOf n = normF n := by unfold normOf; rw [if_pos hv]
      rw [en]
      have mc : midN (normF n) := by unfold midN; omega
      have ec := norm_right hv.1 hv.2.1
      have l0 := all_len (nm := nm) (rows := rows) e mn
      have l1 := all_len (nm := nm) (rows := rows) ec mc
      have hC := cores_ok (nm := nm) (rows := rows) hv.1 hv.2.1 e mn mc
      rw [eqB_t.2 e, eqB_t.2 f, eqB_t.2 ec, l0, l1, eqB_t.2 rfl]
      simp only [simpsL, implies_true, forall_const, if_true, if_false, reduceCtorEq, mn, mc, hro, hC]
    · rw [eqB_f.2 f]; simp only [simpsL, implies_true, forall_const, if_true, if_false, reduceCtorEq, mn, hro]
  · rw [eqB_f.2 e]; simp only [simpsL, implies_true, forall_const, if_true, if_false, reduceCtorEq, mn, hro]
theorem TraceCores_ev : ∀ xs : DT [(.list (.prod (.int .i64) (.prod (.int .i64) (.prod (.int .i64) (.prod (.int .i64) (.prod (.list (.prod .str (.int .i64))) (.int .i64))))))), (.list .str), (.list (.list (.int .i64)))], wfs [(.list (.prod (.int .i64) (.prod (.int .i64) (.prod (.int .i64) (.prod (.int .i64) (.prod (.list (.prod .str (.int .i64))) (.int .i64))))))), (.list .str), (.list (.list (.int .i64)))] xs → LawEv (acall tab fs_alive specs_part fns_LTraceCores 100 20) 10 (argsA tab #[28, 25, 30].toList [(.list (.prod (.int .i64) (.prod (.int .i64) (.prod (.int .i64) (.prod (.int .i64) (.prod (.list (.prod .str (.int .i64))) (.int .i64))))))), (.list .str), (.list (.list (.int .i64)))] xs) := by
  rintro ⟨n, nm, rows, ⟨⟩⟩ hw
  exact TraceCores_go n nm rows



theorem TraceCores_own : ownKnob Try.prog.godebug = none := by kernel_rfl
theorem TraceCores_kids : Kids Try.prog (· < Try.prog.types.size) := kids_rows (by kernel_rfl) (by kernel_rfl)
theorem TraceCores_full : ∀ t e, t < Try.prog.types.size → Try.prog.underlying t = some (.slice e) → 0 < Try.prog.cellsOf e := slices_full_of _ (by kernel_rfl)

theorem TraceCores_lifted (os : Os) (started : os.Started) (H : Type) (enc : TypeId × Value → H) :
    ReturnsInHanded {} Try.checked os 10 .any (Rows.traceCoresSpec.pre6 enc Try.prog Try.f10 Rows.traceCoresRow.domain false) (Rows.traceCoresSpec.post enc Try.prog Try.f10 false true false false) := by
  refine returnsInHanded_of_change_shaped (C := Try.checked) TraceCores_own started (by kernel_rfl) Try.func10
    (ChangeSpec.witness6 (enc := enc) (C := Try.checked) false ⟨#[], #[(Value.slice none 0 0), (Value.slice none 0 0), (Value.slice none 0 0)], []⟩ 8 (by kernel_rfl) (by kernel_rfl) (by kernel_rfl) (by kernel_rfl)) ?_
  intro W base args ds gs before hval hW _ hwt _ _
  refine law_contract' (P := Try.prog) (fn := Try.f10) (s := Rows.traceCoresSpec) (tb := 4) (Ts := [(.list (.prod (.int .i64) (.prod (.int .i64) (.prod (.int .i64) (.prod (.int .i64) (.prod (.list (.prod .str (.int .i64))) (.int .i64))))))), (.list .str), (.list (.list (.int .i64)))]) (call := (acall tab fs_alive specs_part fns_LTraceCores 100 20)) (f := 10) tabOK TraceCores_call TraceCores_kids TraceCores_full Try.params10 (by decide +kernel) rfl rfl Try.underlying4 ?_ (by kernel_rfl) TraceCores_ev hval hW hwt
  intro ds hl
  match ds, hl with
  | [d0, d1, d2], _ => rfl

theorem TraceCores_holds : Rows.TraceCoresSaid :=
  OpenClaim.holds_of_wide 10 Try.f10 rfl rfl rfl rfl rfl rfl rfl ⟨rfl, rfl, rfl, rfl, rfl⟩ rfl rfl rfl rfl rfl (by kernel_rfl) Try.func10 (by kernel_rfl)
    (of_decide_eq_true (by kernel_rfl)) (by unfold Func.isWrapper; first | (rw [if_pos (by decide +kernel)]; kernel_rfl) | (rw [if_neg (by decide +kernel)]; exact ⟨rfl, rfl⟩))
    (fun os started H enc _ => TraceCores_lifted os started H enc)

end Go.Proofs.Ytmdjpohmbkodeaa
