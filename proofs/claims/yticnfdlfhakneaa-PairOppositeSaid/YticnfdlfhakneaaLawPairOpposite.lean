/- Yticnfdlfhakneaa: the law PairOpposite returns true for every input, and its arguments read as they did: no condition. -/
import Derived.Test.YticnfdlfhakneaaRows
import Derived.Test.YticnfdlfhakneaaSxV
import Derived.Test.YticnfdlfhakneaaSmPairC
import Derived.HandedShaped
namespace Go.Proofs.Yticnfdlfhakneaa
open Go.ChangeShapes Go.WideShapes Go.ChangeAt Go.RowKit Sx
set_option maxRecDepth 100000
set_option linter.unusedVariables false
set_option linter.unusedSimpArgs false
set_option maxHeartbeats 4000000

theorem PairOpposite_eq (i h g i' h' g' al : Int) : acall tab fs_bcmp specs_bfar fns 100 20 3 [.agg [.int .i64 i, .int .i64 h, .int .i64 g], .agg [.int .i64 i', .int .i64 h', .int .i64 g'], .int .i64 al] [] (fun o _ _ _ => o = .ret (.bool true)) =
  (eqI i i (eqI h h (eqI g g (eqI i' i' (eqI h' h' (eqI g' g' (eqI al al (eqI i' i' (eqI h' h' (eqI g' g' (eqI i i (eqI h h (eqI g g (eqI al al (need (rI h) (need (rI
    h') (need (rI al) (eqI i' i' (eqI h' h' (eqI g' g' (eqI i i (eqI h h (eqI g g (eqI al al (need (rI h') (need (rI h) (need (rI al) (ifB (selB (selB (eqB i i') (eqB
    h h') false) true (ltB al 1)) (AOut.ret (AV.bool (selB (eqB (senseF i h i' h' al) 0) (eqB (senseF i' h' i h al) 0) false)) = AOut.ret (AV.bool true)) (need (rI h)
    (need (rI h') (∀ (m : Bool) (e0 e1 e2 e3 e4 e5 : Int), okB m e0 e1 e2 e3 e4 e5 → bigV m e0 e1 e2 e3 e4 e5 = apartF h h' → need (rI al) (∀ (m_1 : Bool) (e0_1 e1_1
    e2_1 e3_1 e4_1 e5_1 : Int), okB m_1 e0_1 e1_1 e2_1 e3_1 e4_1 e5_1 → bigV m_1 e0_1 e1_1 e2_1 e3_1 e4_1 e5_1 = al → need (okB m e0 e1 e2 e3 e4 e5) (need (okB m_1 e0_1
    e1_1 e2_1 e3_1 e4_1 e5_1) (need (fitsB (magB e0 e1 e2 e3 e4 e5) (magB e0_1 e1_1 e2_1 e3_1 e4_1 e5_1)) (ifB (notB (ltB (cmpI (bigV m e0 e1 e2 e3 e4 e5) (bigV m_1
    e0_1 e1_1 e2_1 e3_1 e4_1 e5_1)) 0)) (AOut.ret (AV.bool (selB (eqB (senseF i h i' h' al) 0) (eqB (senseF i' h' i h al) 0) false)) = AOut.ret (AV.bool true)) (AOut.ret
    (AV.bool (selB (selB (eqB (senseF i h i' h' al) 1) (eqB (senseF i' h' i h al) 2) false) true (selB (eqB (senseF i h i' h' al) 2) (eqB (senseF i' h' i h al) 1) false)))
    = AOut.ret (AV.bool true))))))))))))))))))))))))))))))))))))) := by kernel_rfl
theorem PairOpposite_call : CallOK Try.prog (acall tab fs_bcmp specs_bfar fns 100 20) := mkCall fsOK_bcmp specsOK_bfar fnsOK
theorem PairOpposite_go (i h g i' h' g' al : Int) (w : rI h ∧ rI h' ∧ rI al) : LawEv (acall tab fs_bcmp specs_bfar fns 100 20) 3 [.agg [.int .i64 i, .int .i64 h, .int .i64 g], .agg [.int .i64 i', .int .i64 h', .int .i64 g'], .int .i64 al] := by
  refine ⟨?_⟩
  rw [PairOpposite_eq]
  obtain ⟨w1, w2, w3⟩ := w
  simp only [eqI_def, need_def, w1, w2, w3, true_and, and_true, ifB_def]
  have ab : 0 ≤ apartF h h' ∧ apartF h h' < 18446744073709551616 := apart_bound w1 w2
  have both0 : senseF i h i' h' al = 0 → senseF i' h' i h al = 0 → AOut.ret (AV.bool (selB (eqB (senseF i h i' h' al) 0) (eqB (senseF i' h' i h al) 0) false)) = AOut.ret (AV.bool true) := by
    intro e1 e2; rw [e1, e2]; rfl
  refine ⟨fun hc => ?_, fun hc m e0 e1 e2 e3 e4 e5 ha hva m1 g0 g1 g2 g3 g4 g5 hb hvb => ⟨ha, hb, ?_, fun hn => ?_, fun hn => ?_⟩⟩
  · simp only [selB_t, selB_f, Bool.or_eq_true, Bool.and_eq_true, eqB_def, ltB_def, decide_eq_true_eq] at hc
    apply both0
    · unfold senseF; (repeat' split) <;> omega
    · unfold senseF; (repeat' split) <;> omega
  · unfold bigV at hva hvb
    unfold rI at w3
    unfold fitsB
    split at hva <;> split at hvb <;> omega
  · rw [hva, hvb, notB_t, ltB_f] at hn
    have hn : al ≤ apartF h h' := by unfold cmpI at hn; split at hn <;> (try split at hn) <;> omega
    have hn2 : al ≤ apartF h' h := by unfold apartF at hn ⊢; split at hn <;> split <;> omega
    apply both0
    · unfold senseF; rw [if_pos (.inr hn)]
    · unfold senseF; rw [if_pos (.inr hn2)]
  · rw [hva, hvb, notB_f, ltB_t] at hn
    have hn : apartF h h' < al := by unfold cmpI at hn; split at hn <;> (try split at hn) <;> omega
    have hn2 : apartF h' h < al := by unfold apartF at hn ⊢; split at hn <;> split <;> omega
    simp only [selB_t, selB_f, Bool.or_eq_false_iff, Bool.and_eq_false_iff, eqB_def, ltB_def, decide_eq_false_iff_not] at hc
    have key : (senseF i h i' h' al = 1 ∧ senseF i' h' i h al = 2) ∨ (senseF i h i' h' al = 2 ∧ senseF i' h' i h al = 1) := by
      unfold senseF; (repeat' split) <;> omega
    rcases key with ⟨k1, k2⟩ | ⟨k1, k2⟩ <;> rw [k1, k2] <;> rfl
theorem PairOpposite_ev : ∀ xs : DT [(.prod (.int .i64) (.prod (.int .i64) (.int .i64))), (.prod (.int .i64) (.prod (.int .i64) (.int .i64))), (.int .i64)], wfs [(.prod (.int .i64) (.prod (.int .i64) (.int .i64))), (.prod (.int .i64) (.prod (.int .i64) (.int .i64))), (.int .i64)] xs → LawEv (acall tab fs_bcmp specs_bfar fns 100 20) 3 (argsA tab #[23, 23, 3].toList [(.prod (.int .i64) (.prod (.int .i64) (.int .i64))), (.prod (.int .i64) (.prod (.int .i64) (.int .i64))), (.int .i64)] xs) := by
  rintro ⟨⟨i, h, g⟩, ⟨i', h', g'⟩, al, ⟨⟩⟩ hw
  exact PairOpposite_go i h g i' h' g' al ⟨has64.1 hw.1.2.1, has64.1 hw.2.1.2.1, has64.1 hw.2.2.1⟩



theorem PairOpposite_own : ownKnob Try.prog.godebug = none := by kernel_rfl
theorem PairOpposite_kids : Kids Try.prog (· < Try.prog.types.size) := kids_rows (by kernel_rfl) (by kernel_rfl)
theorem PairOpposite_full : ∀ t e, t < Try.prog.types.size → Try.prog.underlying t = some (.slice e) → 0 < Try.prog.cellsOf e := slices_full_of _ (by kernel_rfl)

theorem PairOpposite_lifted (os : Os) (started : os.Started) (H : Type) (enc : TypeId × Value → H) :
    ReturnsInHanded {} Try.checked os 3 .any (Rows.pairOppositeSpec.pre6 enc Try.prog Try.f3 Rows.pairOppositeRow.domain false) (Rows.pairOppositeSpec.post enc Try.prog Try.f3 false true false false) := by
  refine returnsInHanded_of_change_shaped (C := Try.checked) PairOpposite_own started (by kernel_rfl) Try.func3
    (ChangeSpec.witness6 (enc := enc) (C := Try.checked) false ⟨#[], #[(Value.agg #[(Value.int IntKind.i64 0), (Value.int IntKind.i64 0), (Value.int IntKind.i64 0)]), (Value.agg #[(Value.int IntKind.i64 0), (Value.int IntKind.i64 0), (Value.int IntKind.i64 0)]), (Value.int IntKind.i64 0)], []⟩ 8 (by kernel_rfl) (by kernel_rfl) (by kernel_rfl) (by kernel_rfl)) ?_
  intro W base args ds gs before hval hW _ hwt _ _
  refine law_contract' (P := Try.prog) (fn := Try.f3) (s := Rows.pairOppositeSpec) (tb := 4) (Ts := [(.prod (.int .i64) (.prod (.int .i64) (.int .i64))), (.prod (.int .i64) (.prod (.int .i64) (.int .i64))), (.int .i64)]) (call := (acall tab fs_bcmp specs_bfar fns 100 20)) (f := 3) tabOK PairOpposite_call PairOpposite_kids PairOpposite_full Try.params3 (by decide +kernel) rfl rfl Try.underlying4 ?_ (by kernel_rfl) PairOpposite_ev hval hW hwt
  intro ds hl
  match ds, hl with
  | [d0, d1, d2], _ => rfl

theorem PairOpposite_holds : Rows.PairOppositeSaid :=
  OpenClaim.holds_of_wide 3 Try.f3 rfl rfl rfl rfl rfl rfl rfl ⟨rfl, rfl, rfl, rfl, rfl⟩ rfl rfl rfl rfl rfl (by kernel_rfl) Try.func3 (by kernel_rfl)
    (of_decide_eq_true (by kernel_rfl)) (by unfold Func.isWrapper; first | (rw [if_pos (by decide +kernel)]; kernel_rfl) | (rw [if_neg (by decide +kernel)]; exact ⟨rfl, rfl⟩))
    (fun os started H enc _ => PairOpposite_lifted os started H enc)

end Go.Proofs.Yticnfdlfhakneaa
