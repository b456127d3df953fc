/- Ytmdjpohmbkodeaa: the law TraceAtoms returns true for every input, and its arguments read as they did: no condition. -/
import Derived.Test.YtmdjpohmbkodeaaRows
import Derived.Test.YtmdjpohmbkodeaaSxV
import Derived.Test.YtmdjpohmbkodeaaSmTraceO
import Derived.HandedShaped
namespace Go.Proofs.Ytmdjpohmbkodeaa
open Go.ChangeShapes Go.WideShapes Go.ChangeAt Go.RowKit Sx
set_option maxRecDepth 100000
set_option linter.unusedVariables false
set_option linter.unusedSimpArgs false
set_option maxHeartbeats 4000000

theorem TraceAtoms_eq (op nn fr to : Int) (ts : List (den TermT)) (num : Int) (nm : List (den .str)) (row : List Int) : acall tab fs_RefAtom specs_judge fns 100 20 3 [.agg [.int .i64 op, .int .i64 nn, .int .i64 fr, .int .i64 to, .view [] TermT ts, .int .i64 num], .view [] .str nm, .view [] (.int .i64) row] [] (fun o _ _ _ => o = .ret (.bool true)) =
  (ifB (notB (lightF ((op, nn, fr, to, ts, num) :: @List.nil (den NodeT)))) (need (eqT true true) (AOut.ret (AV.bool true) = AOut.ret (AV.bool true))) (ifB (notB (rowsB
    (row :: @List.nil (den (Ty.int IntKind.i64).list)) nm)) (AOut.ret (AV.bool true) = AOut.ret (AV.bool true)) (need (fewT ts) (need (fewT ts) (AOut.ret (AV.bool (selB
    (beqB (atomH ts num nm row) (atomH ts num nm row)) (beqB (atomO ts nm row) (atomO ts nm row)) false)) = AOut.ret (AV.bool true)))))) := by kernel_rfl
theorem TraceAtoms_call : CallOK Try.prog (acall tab fs_RefAtom specs_judge fns 100 20) := mkCall fsOK_RefAtom specsOK_judge fnsOK
theorem TraceAtoms_go (op nn fr to : Int) (ts : List (den TermT)) (num : Int) (nm : List (den .str)) (row : List Int) : LawEv (acall tab fs_RefAtom specs_judge fns 100 20) 3 [.agg [.int .i64 op, .int .i64 nn, .int .i64 fr, .int .i64 to, .view [] TermT ts, .int .i64 num], .view [] .str nm, .view [] (.int .i64) row] := by
  refine ⟨?_⟩
  rw [TraceAtoms_eq]
  rw [ifB_def]
  refine ⟨fun _ => ⟨rfl, rfl⟩, fun hg => ?_⟩
  rw [ifB_def]
  refine ⟨fun _ => rfl, fun hr => ?_⟩
  have g1 : lightF [(op, nn, fr, to, ts, num)] = true := by simpa [notB] using hg
  have hf : fewT ts := by
    unfold lightF lightN at g1
    simp only [Bool.and_eq_true, decide_eq_true_eq, List.all_cons] at g1
    have := g1.2.1.1
    unfold fewT
    exact Int.le_trans this (by decide)
  refine ⟨hf, hf, ?_⟩
  simp [beqB, selB]
theorem TraceAtoms_ev : ∀ xs : DT [(.prod (.int .i64) (.prod (.int .i64) (.prod (.int .i64) (.prod (.int .i64) (.prod (.list (.prod .str (.int .i64))) (.int .i64)))))), (.list .str), (.list (.int .i64))], wfs [(.prod (.int .i64) (.prod (.int .i64) (.prod (.int .i64) (.prod (.int .i64) (.prod (.list (.prod .str (.int .i64))) (.int .i64)))))), (.list .str), (.list (.int .i64))] xs → LawEv (acall tab fs_RefAtom specs_judge fns 100 20) 3 (argsA tab #[24, 25, 26].toList [(.prod (.int .i64) (.prod (.int .i64) (.prod (.int .i64) (.prod (.int .i64) (.prod (.list (.prod .str (.int .i64))) (.int .i64)))))), (.list .str), (.list (.int .i64))] xs) := by
  rintro ⟨⟨op, nn, fr, to, ts, num⟩, nm, row, ⟨⟩⟩ hw
  exact TraceAtoms_go op nn fr to ts num nm row



theorem TraceAtoms_own : ownKnob Try.prog.godebug = none := by kernel_rfl
theorem TraceAtoms_kids : Kids Try.prog (· < Try.prog.types.size) := kids_rows (by kernel_rfl) (by kernel_rfl)
theorem TraceAtoms_full : ∀ t e, t < Try.prog.types.size → Try.prog.underlying t = some (.slice e) → 0 < Try.prog.cellsOf e := slices_full_of _ (by kernel_rfl)

theorem TraceAtoms_lifted (os : Os) (started : os.Started) (H : Type) (enc : TypeId × Value → H) :
    ReturnsInHanded {} Try.checked os 3 .any (Rows.traceAtomsSpec.pre6 enc Try.prog Try.f3 Rows.traceAtomsRow.domain false) (Rows.traceAtomsSpec.post enc Try.prog Try.f3 false true false false) := by
  refine returnsInHanded_of_change_shaped (C := Try.checked) TraceAtoms_own started (by kernel_rfl) Try.func3
    (ChangeSpec.witness6 (enc := enc) (C := Try.checked) false ⟨#[], #[(Value.agg #[(Value.int IntKind.i64 0), (Value.int IntKind.i64 0), (Value.int IntKind.i64 0), (Value.int IntKind.i64 0), (Value.slice none 0 0), (Value.int IntKind.i64 0)]), (Value.slice none 0 0), (Value.slice none 0 0)], []⟩ 8 (by kernel_rfl) (by kernel_rfl) (by kernel_rfl) (by kernel_rfl)) ?_
  intro W base args ds gs before hval hW _ hwt _ _
  refine law_contract' (P := Try.prog) (fn := Try.f3) (s := Rows.traceAtomsSpec) (tb := 4) (Ts := [(.prod (.int .i64) (.prod (.int .i64) (.prod (.int .i64) (.prod (.int .i64) (.prod (.list (.prod .str (.int .i64))) (.int .i64)))))), (.list .str), (.list (.int .i64))]) (call := (acall tab fs_RefAtom specs_judge fns 100 20)) (f := 3) tabOK TraceAtoms_call TraceAtoms_kids TraceAtoms_full Try.params3 (by decide +kernel) rfl rfl Try.underlying4 ?_ (by kernel_rfl) TraceAtoms_ev hval hW hwt
  intro ds hl
  match ds, hl with
  | [d0, d1, d2], _ => rfl

theorem TraceAtoms_holds : Rows.TraceAtomsSaid :=
  OpenClaim.holds_of_wide 3 Try.f3 rfl rfl rfl rfl rfl rfl rfl ⟨rfl, rfl, rfl, rfl, rfl⟩ rfl rfl rfl rfl rfl (by kernel_rfl) Try.func3 (by kernel_rfl)
    (of_decide_eq_true (by kernel_rfl)) (by unfold Func.isWrapper; first | (rw [if_pos (by decide +kernel)]; kernel_rfl) | (rw [if_neg (by decide +kernel)]; exact ⟨rfl, rfl⟩))
    (fun os started H enc _ => TraceAtoms_lifted os started H enc)

end Go.Proofs.Ytmdjpohmbkodeaa
