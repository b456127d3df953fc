/- Ytkdemkkepepbdaa: the law PeepShorter returns true for every input, and its arguments read as they did: no condition. -/
import Derived.Test.YtkdemkkepepbdaaRows
import Derived.Test.YtkdemkkepepbdaaSxV
import Derived.Test.YtkdemkkepepbdaaSmPeepG
import Derived.HandedShaped
namespace Go.Proofs.Ytkdemkkepepbdaa
open Go.ChangeShapes Go.WideShapes Go.ChangeAt Go.RowKit Sx
set_option maxRecDepth 100000
set_option linter.unusedVariables false
set_option linter.unusedSimpArgs false
set_option maxHeartbeats 4000000

theorem PeepShorter_eq (l : List (den CodeT)) (p : Int) : acall tab fs_alive specs_runq_id fns 100 20 3 [.view [] CodeT l, .int .i64 p] [] (fun o _ _ _ => o = .ret (.bool true)) =
  (ifB (ltB 200 (lenI l)) (AOut.ret (AV.bool true) = AOut.ret (AV.bool true)) (needr (AV.fn (Fn.func 16) ([]) (AV.vptr [] (AV.view [] CodeT (@List.nil (den CodeT))
    :: []) :: AV.vptr [] (AV.int IntKind.i64 3 :: []) :: []) :: AV.fn (Fn.func 16) ([]) (AV.vptr [] (AV.view [] CodeT (((1 : Int), (0 : Int), (0 : Int), (0 : Int)) ::
    @List.nil (den CodeT)) :: []) :: AV.vptr [] (AV.int IntKind.i64 0 :: []) :: []) :: AV.fn (Fn.func 16) ([]) (AV.vptr [] (AV.view [] CodeT (((0 : Int), (0 : Int),
    (0 : Int), (0 : Int)) :: @List.nil (den CodeT)) :: []) :: AV.vptr [] (AV.int IntKind.i64 1 :: []) :: []) :: AV.fn (Fn.func 18) ([]) (AV.vptr [] (AV.bool false ::
    []) :: []) :: AV.fn (Fn.func 18) ([]) (AV.vptr [] (AV.bool true :: []) :: []) :: AV.fn (Fn.func 20) ([]) (AV.vptr [] (AV.bool false :: []) :: []) :: AV.fn (Fn.func
    20) ([]) (AV.vptr [] (AV.bool true :: []) :: []) :: []) (need (smallC l) (needr (AV.fn (Fn.func 16) ([]) (AV.vptr [] (AV.view [] CodeT (@List.nil (den CodeT)) ::
    []) :: AV.vptr [] (AV.int IntKind.i64 3 :: []) :: []) :: AV.fn (Fn.func 16) ([]) (AV.vptr [] (AV.view [] CodeT (((1 : Int), (0 : Int), (0 : Int), (0 : Int)) :: @List.nil
    (den CodeT)) :: []) :: AV.vptr [] (AV.int IntKind.i64 0 :: []) :: []) :: AV.fn (Fn.func 16) ([]) (AV.vptr [] (AV.view [] CodeT (((0 : Int), (0 : Int), (0 : Int),
    (0 : Int)) :: @List.nil (den CodeT)) :: []) :: AV.vptr [] (AV.int IntKind.i64 1 :: []) :: []) :: AV.fn (Fn.func 18) ([]) (AV.vptr [] (AV.bool false :: []) :: [])
    :: AV.fn (Fn.func 18) ([]) (AV.vptr [] (AV.bool true :: []) :: []) :: AV.fn (Fn.func 20) ([]) (AV.vptr [] (AV.bool false :: []) :: []) :: AV.fn (Fn.func 20) ([])
    (AV.vptr [] (AV.bool true :: []) :: []) :: []) (need (smallC (runE allK l)) (need (nzI 7) (ifB (eqB (remI (bandW IntKind.i64 p 1023) 7) 0) (need (smallC l) (need
    (shortL (@List.nil (den CodeT))) (needr (AV.fn (Fn.func 16) ([]) (AV.vptr [] (AV.view [] CodeT (@List.nil (den CodeT)) :: []) :: AV.vptr [] (AV.int IntKind.i64 3
    :: []) :: []) :: AV.fn (Fn.func 16) ([]) (AV.vptr [] (AV.view [] CodeT (((1 : Int), (0 : Int), (0 : Int), (0 : Int)) :: @List.nil (den CodeT)) :: []) :: AV.vptr
    [] (AV.int IntKind.i64 0 :: []) :: []) :: AV.fn (Fn.func 16) ([]) (AV.vptr [] (AV.view [] CodeT (((0 : Int), (0 : Int), (0 : Int), (0 : Int)) :: @List.nil (den CodeT))
    :: []) :: AV.vptr [] (AV.int IntKind.i64 1 :: []) :: []) :: AV.fn (Fn.func 18) ([]) (AV.vptr [] (AV.bool false :: []) :: []) :: AV.fn (Fn.func 18) ([]) (AV.vptr
    [] (AV.bool true :: []) :: []) :: AV.fn (Fn.func 20) ([]) (AV.vptr [] (AV.bool false :: []) :: []) :: AV.fn (Fn.func 20) ([]) (AV.vptr [] (AV.bool true :: []) ::
    []) :: []) (need (smallC (runE (Rul.tu (@List.nil (den CodeT)) 3 :: @List.nil Rul) l)) (AOut.ret (AV.bool (selB (selB (selB (leB (lenI (runE allK l)) (lenI l)) (sameC
    (runE allK l) (runE allK (runE allK l))) false) (leB (lenI (runE (Rul.tu (@List.nil (den CodeT)) 3 :: @List.nil Rul) l)) (lenI l)) false) (leB (lenI (runE allK (runE
    (Rul.tu (@List.nil (den CodeT)) 3 :: @List.nil Rul) l))) (lenI (runE (Rul.tu (@List.nil (den CodeT)) 3 :: @List.nil Rul) l))) false)) = AOut.ret (AV.bool true))))))
    (ifB (eqB (remI (bandW IntKind.i64 p 1023) 7) 1) (need (smallC l) (need (shortL (((1 : Int), (0 : Int), (0 : Int), (0 : Int)) :: @List.nil (den CodeT))) (needr (AV.fn
    (Fn.func 16) ([]) (AV.vptr [] (AV.view [] CodeT (@List.nil (den CodeT)) :: []) :: AV.vptr [] (AV.int IntKind.i64 3 :: []) :: []) :: AV.fn (Fn.func 16) ([]) (AV.vptr
    [] (AV.view [] CodeT (((1 : Int), (0 : Int), (0 : Int), (0 : Int)) :: @List.nil (den CodeT)) :: []) :: AV.vptr [] (AV.int IntKind.i64 0 :: []) :: []) :: AV.fn (Fn.func
    16) ([]) (AV.vptr [] (AV.view [] CodeT (((0 : Int), (0 : Int), (0 : Int), (0 : Int)) :: @List.nil (den CodeT)) :: []) :: AV.vptr [] (AV.int IntKind.i64 1 :: [])
    :: []) :: AV.fn (Fn.func 18) ([]) (AV.vptr [] (AV.bool false :: []) :: []) :: AV.fn (Fn.func 18) ([]) (AV.vptr [] (AV.bool true :: []) :: []) :: AV.fn (Fn.func 20)
    ([]) (AV.vptr [] (AV.bool false :: []) :: []) :: AV.fn (Fn.func 20) ([]) (AV.vptr [] (AV.bool true :: []) :: []) :: []) (need (smallC (runE (Rul.tu (((1 : Int),
    (0 : Int), (0 : Int), (0 : Int)) :: @List.nil (den CodeT)) 0 :: @List.nil Rul) l)) (AOut.ret (AV.bool (selB (selB (selB (leB (lenI (runE allK l)) (lenI l)) (sameC
    (runE allK l) (runE allK (runE allK l))) false) (leB (lenI (runE (Rul.tu (((1 : Int), (0 : Int), (0 : Int), (0 : Int)) :: @List.nil (den CodeT)) 0 :: @List.nil Rul)
    l)) (lenI l)) false) (leB (lenI (runE allK (runE (Rul.tu (((1 : Int), (0 : Int), (0 : Int), (0 : Int)) :: @List.nil (den CodeT)) 0 :: @List.nil Rul) l))) (lenI (runE
    (Rul.tu (((1 : Int), (0 : Int), (0 : Int), (0 : Int)) :: @List.nil (den CodeT)) 0 :: @List.nil Rul) l))) false)) = AOut.ret (AV.bool true)))))) (ifB (eqB (remI (bandW
    IntKind.i64 p 1023) 7) 2) (need (smallC l) (need (shortL (((0 : Int), (0 : Int), (0 : Int), (0 : Int)) :: @List.nil (den CodeT))) (needr (AV.fn (Fn.func 16) ([])
    (AV.vptr [] (AV.view [] CodeT (@List.nil (den CodeT)) :: []) :: AV.vptr [] (AV.int IntKind.i64 3 :: []) :: []) :: AV.fn (Fn.func 16) ([]) (AV.vptr [] (AV.view []
    CodeT (((1 : Int), (0 : Int), (0 : Int), (0 : Int)) :: @List.nil (den CodeT)) :: []) :: AV.vptr [] (AV.int IntKind.i64 0 :: []) :: []) :: AV.fn (Fn.func 16) ([])
    (AV.vptr [] (AV.view [] CodeT (((0 : Int), (0 : Int), (0 : Int), (0 : Int)) :: @List.nil (den CodeT)) :: []) :: AV.vptr [] (AV.int IntKind.i64 1 :: []) :: []) ::
    AV.fn (Fn.func 18) ([]) (AV.vptr [] (AV.bool false :: []) :: []) :: AV.fn (Fn.func 18) ([]) (AV.vptr [] (AV.bool true :: []) :: []) :: AV.fn (Fn.func 20) ([]) (AV.vptr
    [] (AV.bool false :: []) :: []) :: AV.fn (Fn.func 20) ([]) (AV.vptr [] (AV.bool true :: []) :: []) :: []) (need (smallC (runE (Rul.tu (((0 : Int), (0 : Int), (0
    : Int), (0 : Int)) :: @List.nil (den CodeT)) 1 :: @List.nil Rul) l)) (AOut.ret (AV.bool (selB (selB (selB (leB (lenI (runE allK l)) (lenI l)) (sameC (runE allK l)
    (runE allK (runE allK l))) false) (leB (lenI (runE (Rul.tu (((0 : Int), (0 : Int), (0 : Int), (0 : Int)) :: @List.nil (den CodeT)) 1 :: @List.nil Rul) l)) (lenI
    l)) false) (leB (lenI (runE allK (runE (Rul.tu (((0 : Int), (0 : Int), (0 : Int), (0 : Int)) :: @List.nil (den CodeT)) 1 :: @List.nil Rul) l))) (lenI (runE (Rul.tu
    (((0 : Int), (0 : Int), (0 : Int), (0 : Int)) :: @List.nil (den CodeT)) 1 :: @List.nil Rul) l))) false)) = AOut.ret (AV.bool true)))))) (ifB (eqB (remI (bandW IntKind.i64
    p 1023) 7) 3) (need (smallC l) (need True (needr (AV.fn (Fn.func 16) ([]) (AV.vptr [] (AV.view [] CodeT (@List.nil (den CodeT)) :: []) :: AV.vptr [] (AV.int IntKind.i64
    3 :: []) :: []) :: AV.fn (Fn.func 16) ([]) (AV.vptr [] (AV.view [] CodeT (((1 : Int), (0 : Int), (0 : Int), (0 : Int)) :: @List.nil (den CodeT)) :: []) :: AV.vptr
    [] (AV.int IntKind.i64 0 :: []) :: []) :: AV.fn (Fn.func 16) ([]) (AV.vptr [] (AV.view [] CodeT (((0 : Int), (0 : Int), (0 : Int), (0 : Int)) :: @List.nil (den CodeT))
    :: []) :: AV.vptr [] (AV.int IntKind.i64 1 :: []) :: []) :: AV.fn (Fn.func 18) ([]) (AV.vptr [] (AV.bool false :: []) :: []) :: AV.fn (Fn.func 18) ([]) (AV.vptr
    [] (AV.bool true :: []) :: []) :: AV.fn (Fn.func 20) ([]) (AV.vptr [] (AV.bool false :: []) :: []) :: AV.fn (Fn.func 20) ([]) (AV.vptr [] (AV.bool true :: []) ::
    []) :: []) (need (smallC (runE (Rul.tw false :: @List.nil Rul) l)) (AOut.ret (AV.bool (selB (selB (selB (leB (lenI (runE allK l)) (lenI l)) (sameC (runE allK l)
    (runE allK (runE allK l))) false) (leB (lenI (runE (Rul.tw false :: @List.nil Rul) l)) (lenI l)) false) (leB (lenI (runE allK (runE (Rul.tw false :: @List.nil Rul)
    l))) (lenI (runE (Rul.tw false :: @List.nil Rul) l))) false)) = AOut.ret (AV.bool true)))))) (ifB (eqB (remI (bandW IntKind.i64 p 1023) 7) 4) (need (smallC l) (need
    True (needr (AV.fn (Fn.func 16) ([]) (AV.vptr [] (AV.view [] CodeT (@List.nil (den CodeT)) :: []) :: AV.vptr [] (AV.int IntKind.i64 3 :: []) :: []) :: AV.fn (Fn.func
    16) ([]) (AV.vptr [] (AV.view [] CodeT (((1 : Int), (0 : Int), (0 : Int), (0 : Int)) :: @List.nil (den CodeT)) :: []) :: AV.vptr [] (AV.int IntKind.i64 0 :: [])
    :: []) :: AV.fn (Fn.func 16) ([]) (AV.vptr [] (AV.view [] CodeT (((0 : Int), (0 : Int), (0 : Int), (0 : Int)) :: @List.nil (den CodeT)) :: []) :: AV.vptr [] (AV.int
    IntKind.i64 1 :: []) :: []) :: AV.fn (Fn.func 18) ([]) (AV.vptr [] (AV.bool false :: []) :: []) :: AV.fn (Fn.func 18) ([]) (AV.vptr [] (AV.bool true :: []) :: [])
    :: AV.fn (Fn.func 20) ([]) (AV.vptr [] (AV.bool false :: []) :: []) :: AV.fn (Fn.func 20) ([]) (AV.vptr [] (AV.bool true :: []) :: []) :: []) (need (smallC (runE
    (Rul.tw true :: @List.nil Rul) l)) (AOut.ret (AV.bool (selB (selB (selB (leB (lenI (runE allK l)) (lenI l)) (sameC (runE allK l) (runE allK (runE allK l))) false)
    (leB (lenI (runE (Rul.tw true :: @List.nil Rul) l)) (lenI l)) false) (leB (lenI (runE allK (runE (Rul.tw true :: @List.nil Rul) l))) (lenI (runE (Rul.tw true ::
    @List.nil Rul) l))) false)) = AOut.ret (AV.bool true)))))) (ifB (eqB (remI (bandW IntKind.i64 p 1023) 7) 5) (need (smallC l) (need True (needr (AV.fn (Fn.func 16)
    ([]) (AV.vptr [] (AV.view [] CodeT (@List.nil (den CodeT)) :: []) :: AV.vptr [] (AV.int IntKind.i64 3 :: []) :: []) :: AV.fn (Fn.func 16) ([]) (AV.vptr [] (AV.view
    [] CodeT (((1 : Int), (0 : Int), (0 : Int), (0 : Int)) :: @List.nil (den CodeT)) :: []) :: AV.vptr [] (AV.int IntKind.i64 0 :: []) :: []) :: AV.fn (Fn.func 16) ([])
    (AV.vptr [] (AV.view [] CodeT (((0 : Int), (0 : Int), (0 : Int), (0 : Int)) :: @List.nil (den CodeT)) :: []) :: AV.vptr [] (AV.int IntKind.i64 1 :: []) :: []) ::
    AV.fn (Fn.func 18) ([]) (AV.vptr [] (AV.bool false :: []) :: []) :: AV.fn (Fn.func 18) ([]) (AV.vptr [] (AV.bool true :: []) :: []) :: AV.fn (Fn.func 20) ([]) (AV.vptr
    [] (AV.bool false :: []) :: []) :: AV.fn (Fn.func 20) ([]) (AV.vptr [] (AV.bool true :: []) :: []) :: []) (need (smallC (runE (Rul.id false :: @List.nil Rul) l))
    (AOut.ret (AV.bool (selB (selB (selB (leB (lenI (runE allK l)) (lenI l)) (sameC (runE allK l) (runE allK (runE allK l))) false) (leB (lenI (runE (Rul.id false ::
    @List.nil Rul) l)) (lenI l)) false) (leB (lenI (runE allK (runE (Rul.id false :: @List.nil Rul) l))) (lenI (runE (Rul.id false :: @List.nil Rul) l))) false)) = AOut.ret
    (AV.bool true)))))) (ifB (eqB (remI (bandW IntKind.i64 p 1023) 7) 6) (need (smallC l) (need True (needr (AV.fn (Fn.func 16) ([]) (AV.vptr [] (AV.view [] CodeT (@List.nil
    (den CodeT)) :: []) :: AV.vptr [] (AV.int IntKind.i64 3 :: []) :: []) :: AV.fn (Fn.func 16) ([]) (AV.vptr [] (AV.view [] CodeT (((1 : Int), (0 : Int), (0 : Int),
    (0 : Int)) :: @List.nil (den CodeT)) :: []) :: AV.vptr [] (AV.int IntKind.i64 0 :: []) :: []) :: AV.fn (Fn.func 16) ([]) (AV.vptr [] (AV.view [] CodeT (((0 : Int),
    (0 : Int), (0 : Int), (0 : Int)) :: @List.nil (den CodeT)) :: []) :: AV.vptr [] (AV.int IntKind.i64 1 :: []) :: []) :: AV.fn (Fn.func 18) ([]) (AV.vptr [] (AV.bool
    false :: []) :: []) :: AV.fn (Fn.func 18) ([]) (AV.vptr [] (AV.bool true :: []) :: []) :: AV.fn (Fn.func 20) ([]) (AV.vptr [] (AV.bool false :: []) :: []) :: AV.fn
    (Fn.func 20) ([]) (AV.vptr [] (AV.bool true :: []) :: []) :: []) (need (smallC (runE (Rul.id true :: @List.nil Rul) l)) (AOut.ret (AV.bool (selB (selB (selB (leB
    (lenI (runE allK l)) (lenI l)) (sameC (runE allK l) (runE allK (runE allK l))) false) (leB (lenI (runE (Rul.id true :: @List.nil Rul) l)) (lenI l)) false) (leB (lenI
    (runE allK (runE (Rul.id true :: @List.nil Rul) l))) (lenI (runE (Rul.id true :: @List.nil Rul) l))) false)) = AOut.ret (AV.bool true)))))) False))))))))))))) := by kernel_rfl
theorem PeepShorter_call : CallOK Try.prog (acall tab fs_alive specs_runq_id fns 100 20) := mkCall fsOK_alive specsOK_runq_id fnsOK
theorem PeepShorter_go (l : List (den CodeT)) (p : Int) : LawEv (acall tab fs_alive specs_runq_id fns 100 20) 3 [.view [] CodeT l, .int .i64 p] := by
  refine ⟨?_⟩
  rw [PeepShorter_eq]
  rw [ifB_def]
  refine ⟨fun _ => rfl, fun hg => ?_⟩
  have hg := ltB_f.1 hg
  have hsm : smallC l := by unfold smallC; omega
  have hsA := smallA (by omega : lenI l ≤ 200)
  have hb := band_rng p
  have hr : remI (bandW .i64 p 1023) 7 = bandW .i64 p 1023 % 7 := Int.tmod_eq_emod_of_nonneg hb.1
  have h7 : 0 ≤ remI (bandW .i64 p 1023) 7 ∧ remI (bandW .i64 p 1023) 7 < 7 := by rw [hr]; omega
  generalize remI (bandW .i64 p 1023) 7 = k at h7 ⊢
  have s0 : shortL [] := by unfold shortL lenI; simp
  have s1 : ∀ x : den CodeT, shortL [x] := fun x => by unfold shortL lenI; simp
  refine ⟨rfl, hsm, rfl, hsA, by unfold nzI; omega, ?_⟩
  rw [ifB_def]
  refine ⟨fun _ => ?_, fun q0 => ?_⟩
  · have hq := shorter_fin (r := .tu [] 3) (by show lenI (_ : List (den CodeT)) ≤ 1; simp [lenI]) hg
    refine ⟨hsm, s0, rfl, hq.1, ?_⟩
    rw [hq.2]
  rw [ifB_def]
  refine ⟨fun _ => ?_, fun q1 => ?_⟩
  · have hq := shorter_fin (r := .tu [(1, 0, 0, 0)] 0) (by show lenI (_ : List (den CodeT)) ≤ 1; simp [lenI]) hg
    refine ⟨hsm, s1 _, rfl, hq.1, ?_⟩
    rw [hq.2]
  rw [ifB_def]
  refine ⟨fun _ => ?_, fun q2 => ?_⟩
  · have hq := shorter_fin (r := .tu [(0, 0, 0, 0)] 1) (by show lenI (_ : List (den CodeT)) ≤ 1; simp [lenI]) hg
    refine ⟨hsm, s1 _, rfl, hq.1, ?_⟩
    rw [hq.2]
  rw [ifB_def]
  refine ⟨fun _ => ?_, fun q3 => ?_⟩
  · have hq := shorter_fin (r := .tw false) trivial hg
    refine ⟨hsm, trivial, rfl, hq.1, ?_⟩
    rw [hq.2]
  rw [ifB_def]
  refine ⟨fun _ => ?_, fun q4 => ?_⟩
  · have hq := shorter_fin (r := .tw true) trivial hg
    refine ⟨hsm, trivial, rfl, hq.1, ?_⟩
    rw [hq.2]
  rw [ifB_def]
  refine ⟨fun _ => ?_, fun q5 => ?_⟩
  · have hq := shorter_fin (r := .id false) trivial hg
    refine ⟨hsm, trivial, rfl, hq.1, ?_⟩
    rw [hq.2]
  rw [ifB_def]
  refine ⟨fun _ => ?_, fun q6 => ?_⟩
  · have hq := shorter_fin (r := .id true) trivial hg
    refine ⟨hsm, trivial, rfl, hq.1, ?_⟩
    rw [hq.2]
  simp only [eqB_f] at q0 q1 q2 q3 q4 q5 q6
  omega
theorem PeepShorter_ev : ∀ xs : DT [(.list (.prod (.int .i64) (.prod (.int .i64) (.prod (.int .i64) (.int .i64))))), (.int .i64)], wfs [(.list (.prod (.int .i64) (.prod (.int .i64) (.prod (.int .i64) (.int .i64))))), (.int .i64)] xs → LawEv (acall tab fs_alive specs_runq_id fns 100 20) 3 (argsA tab #[22, 3].toList [(.list (.prod (.int .i64) (.prod (.int .i64) (.prod (.int .i64) (.int .i64))))), (.int .i64)] xs) := by
  rintro ⟨l, p, ⟨⟩⟩ hw
  exact PeepShorter_go l p



theorem PeepShorter_own : ownKnob Try.prog.godebug = none := by kernel_rfl
theorem PeepShorter_kids : Kids Try.prog (· < Try.prog.types.size) := kids_rows (by kernel_rfl) (by kernel_rfl)
theorem PeepShorter_full : ∀ t e, t < Try.prog.types.size → Try.prog.underlying t = some (.slice e) → 0 < Try.prog.cellsOf e := slices_full_of _ (by kernel_rfl)

theorem PeepShorter_lifted (os : Os) (started : os.Started) (H : Type) (enc : TypeId × Value → H) :
    ReturnsInHanded {} Try.checked os 3 .any (Rows.peepShorterSpec.pre6 enc Try.prog Try.f3 Rows.peepShorterRow.domain false) (Rows.peepShorterSpec.post enc Try.prog Try.f3 false true false false) := by
  refine returnsInHanded_of_change_shaped (C := Try.checked) PeepShorter_own started (by kernel_rfl) Try.func3
    (ChangeSpec.witness6 (enc := enc) (C := Try.checked) false ⟨#[], #[(Value.slice none 0 0), (Value.int IntKind.i64 0)], []⟩ 8 (by kernel_rfl) (by kernel_rfl) (by kernel_rfl) (by kernel_rfl)) ?_
  intro W base args ds gs before hval hW _ hwt _ _
  refine law_contract' (P := Try.prog) (fn := Try.f3) (s := Rows.peepShorterSpec) (tb := 4) (Ts := [(.list (.prod (.int .i64) (.prod (.int .i64) (.prod (.int .i64) (.int .i64))))), (.int .i64)]) (call := (acall tab fs_alive specs_runq_id fns 100 20)) (f := 3) tabOK PeepShorter_call PeepShorter_kids PeepShorter_full Try.params3 (by decide +kernel) rfl rfl Try.underlying4 ?_ (by kernel_rfl) PeepShorter_ev hval hW hwt
  intro ds hl
  match ds, hl with
  | [d0, d1], _ => rfl

theorem PeepShorter_holds : Rows.PeepShorterSaid :=
  OpenClaim.holds_of_wide 3 Try.f3 rfl rfl rfl rfl rfl rfl rfl ⟨rfl, rfl, rfl, rfl, rfl⟩ rfl rfl rfl rfl rfl (by kernel_rfl) Try.func3 (by kernel_rfl)
    (of_decide_eq_true (by kernel_rfl)) (by unfold Func.isWrapper; first | (rw [if_pos (by decide +kernel)]; kernel_rfl) | (rw [if_neg (by decide +kernel)]; exact ⟨rfl, rfl⟩))
    (fun os started H enc _ => PeepShorter_lifted os started H enc)

end Go.Proofs.Ytkdemkkepepbdaa
