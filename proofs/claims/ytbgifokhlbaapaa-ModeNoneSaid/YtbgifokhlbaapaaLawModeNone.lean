/- Ytbgifokhlbaapaa: the law ModeNone returns true for every input, and its arguments read as they did: no condition. -/
import Derived.Test.YtbgifokhlbaapaaRows
import Derived.Test.YtbgifokhlbaapaaSxV
import Derived.HandedShaped
namespace Go.Proofs.Ytbgifokhlbaapaa
open Go.ChangeShapes Go.WideShapes Go.ChangeAt Go.RowKit Sx
set_option maxRecDepth 100000
set_option linter.unusedVariables false
set_option linter.unusedSimpArgs false
set_option maxHeartbeats 4000000

theorem ModeNone_eq (a b c : Int) (d : Bool) : acall tab [] fns 100 20 7 (argsA tab #[23].toList [(.prod (.int .i64) (.prod (.int .i64) (.prod (.int .i64) .bool)))] ((a, b, c, d), ())) [] (fun out _ _ _ => out = .ret (.bool true)) =
  (eqI 0 0
    (eqI 3 3
      (eqI 0 0
        (eqI 0 0
          (eqL true true
            (eqI 1 1
              (eqI 2 2
                (eqL false false
                  (eqI 1 1
                    (eqI 2 2
                      (eqI 0 0
                        (eqI 1 1
                          (eqI 0 0
                            (eqI 0 0
                              (eqL true true
                                (eqI 0 0
                                  (eqI 2 2
                                    (eqL false false
                                      (eqI 0 0
                                        (eqI 2 2
                                          (eqI 3 3
                                            (eqI 0 0
                                              (eqI 0 0
                                                (eqL true true
                                                  (eqI 3 3
                                                    (eqI 0 0
                                                      (eqI 0 0
                                                        (eqL true true
                                                          (eqI 2 2
                                                            (eqI 3 3
                                                              (eqI 0 0
                                                                (eqI 0 0
                                                                  (eqL true true
                                                                    (eqI 1 1
                                                                      (eqI 2 2
                                                                        (eqL false false
                                                                          (eqI 1 1
                                                                            (eqI 2 2
                                                                              (eqI 3 3
                                                                                (eqI 0 0
                                                                                  (eqI 0 0
                                                                                    (eqL true true
                                                                                      (eqI 2 2
                                                                                        (eqI 3 3
                                                                                          (eqI 0 0
                                                                                            (eqI 0 0
                                                                                              (eqL true true
                                                                                                (eqI 2 2
                                                                                                  (eqI 2 2
                                                                                                    (eqL true true
                                                                                                      (eqI 2 2
                                                                                                        (eqI 2 2
                                                                                                          (AOut.ret
                                                                                                              (AV.bool
                                                                                                                true) =
                                                                                                            AOut.ret
                                                                                                              (AV.bool
                                                                                                                true)))))))))))))))))))))))))))))))))))))))))))))))))))))) := by kernel_rfl
theorem ModeNone_ev : ∀ xs : DT [(.prod (.int .i64) (.prod (.int .i64) (.prod (.int .i64) .bool)))], wfs [(.prod (.int .i64) (.prod (.int .i64) (.prod (.int .i64) .bool)))] xs → LawEv (acall tab [] fns 100 20) 7 (argsA tab #[23].toList [(.prod (.int .i64) (.prod (.int .i64) (.prod (.int .i64) .bool)))] xs) := by
  rintro ⟨⟨a, b, c, d⟩, ⟨⟩⟩ _
  refine ⟨?_⟩
  rw [ModeNone_eq]
  simp only [need, eqI, eqL, and_self]
theorem ModeNone_call : CallOK Try.prog (acall tab [] fns 100 20) := acall_ok tabOK specsOK_nil fnsOK (fun hC C => draw_ok tabOK hC mixed C) 20


theorem ModeNone_own : ownKnob Try.prog.godebug = none := by kernel_rfl
theorem ModeNone_kids : Kids Try.prog (· < Try.prog.types.size) := kids_rows (by kernel_rfl) (by kernel_rfl)
theorem ModeNone_full : ∀ t e, t < Try.prog.types.size → Try.prog.underlying t = some (.slice e) → 0 < Try.prog.cellsOf e := slices_full_of _ (by kernel_rfl)

theorem ModeNone_lifted (os : Os) (started : os.Started) (H : Type) (enc : TypeId × Value → H) :
    ReturnsInHanded {} Try.checked os 7 .any (Rows.modeNoneSpec.pre6 enc Try.prog Try.f7 Rows.modeNoneRow.domain false) (Rows.modeNoneSpec.post enc Try.prog Try.f7 false true false false) := by
  refine returnsInHanded_of_change_shaped (C := Try.checked) ModeNone_own started (by kernel_rfl) Try.func7
    (ChangeSpec.witness6 (enc := enc) (C := Try.checked) false ⟨#[], #[(Value.agg #[(Value.int IntKind.i64 0), (Value.int IntKind.i64 0), (Value.int IntKind.i64 0), (Value.bool Bool.false)])], []⟩ 8 (by kernel_rfl) (by kernel_rfl) (by kernel_rfl) (by kernel_rfl)) ?_
  intro W base args ds gs before hval hW _ hwt _ _
  refine law_contract' (P := Try.prog) (fn := Try.f7) (s := Rows.modeNoneSpec) (tb := 4) (Ts := [(.prod (.int .i64) (.prod (.int .i64) (.prod (.int .i64) .bool)))]) (call := (acall tab [] fns 100 20)) (f := 7) tabOK ModeNone_call ModeNone_kids ModeNone_full Try.params7 (by decide +kernel) rfl rfl Try.underlying4 ?_ (by kernel_rfl) ModeNone_ev hval hW hwt
  intro ds hl
  match ds, hl with
  | [d0], _ => rfl

theorem ModeNone_holds : Rows.ModeNoneSaid :=
  OpenClaim.holds_of_wide 7 Try.f7 rfl rfl rfl rfl rfl rfl rfl ⟨rfl, rfl, rfl, rfl, rfl⟩ rfl rfl rfl rfl rfl (by kernel_rfl) Try.func7 (by kernel_rfl)
    (of_decide_eq_true (by kernel_rfl)) (by unfold Func.isWrapper; first | (rw [if_pos (by decide +kernel)]; kernel_rfl) | (rw [if_neg (by decide +kernel)]; exact ⟨rfl, rfl⟩))
    (fun os started H enc _ => ModeNone_lifted os started H enc)

end Go.Proofs.Ytbgifokhlbaapaa
