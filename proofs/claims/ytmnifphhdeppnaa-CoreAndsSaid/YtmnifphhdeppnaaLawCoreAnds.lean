/- Ytmnifphhdeppnaa: the law CoreAnds returns true for every input, and its arguments read as they did: no condition. -/
import Derived.Test.YtmnifphhdeppnaaRows
import Derived.Test.YtmnifphhdeppnaaSxV
import Derived.Test.YtmnifphhdeppnaaSmCoreL
import Derived.Test.YtmnifphhdeppnaaPlCoreP
import Derived.HandedShaped
namespace Go.Proofs.Ytmnifphhdeppnaa
open Go.ChangeShapes Go.WideShapes Go.ChangeAt Go.RowKit Sx
set_option maxRecDepth 100000
set_option linter.unusedVariables false
set_option linter.unusedSimpArgs false
set_option maxHeartbeats 4000000

theorem CoreAnds_eq (a b : List (den NodeT)) : acall tab fs_alive specs_copiedS fns 100 20 3 [.view [] NodeT a, .view [] NodeT b] [] (fun o _ _ _ => o = .ret (.bool true)) =
  (need (impB (notB (selB (notB (lightF a)) true (notB (lightF b)))) (smallL a)) (need (impB (notB (selB (selB (notB (lightF a)) true (notB (lightF b))) true (notB
    (isCoreF a)))) (smallL b)) (ifB (selB (selB (selB (selB (selB (notB (lightF a)) true (notB (lightF b))) true (notB (isCoreF a))) true (notB (isCoreF b))) true (eqB
    (lenI a) 0)) true (eqB (lenI b) 0)) (AOut.ret (AV.bool true) = AOut.ret (AV.bool true)) (need (andOK (a :: b :: @List.nil (den NodeT.list))) (need (treeOK a) (need
    (treeOK b) (need (allOK (notF a :: notF b :: @List.nil (den NodeT.list))) (need (treeOK (corF (notF a :: notF b :: @List.nil (den NodeT.list)))) (ifB (sameF (candF
    (a :: b :: @List.nil (den NodeT.list))) (notF (corF (notF a :: notF b :: @List.nil (den NodeT.list))))) (need (andOK (a :: b :: ((0, 0, 0, 0, @List.nil (den TermT),
    0) :: @List.nil (den NodeT)) :: @List.nil (den NodeT.list))) (ifB (sameF (candF (a :: b :: ((0, 0, 0, 0, @List.nil (den TermT), 0) :: @List.nil (den NodeT)) :: @List.nil
    (den NodeT.list))) (candF (a :: b :: @List.nil (den NodeT.list)))) (need (andOK (a :: a :: @List.nil (den NodeT.list))) (need (andOK (a :: @List.nil (den NodeT.list)))
    (ifB (sameF (candF (a :: a :: @List.nil (den NodeT.list))) (candF (a :: @List.nil (den NodeT.list)))) (need (allOK (a :: b :: ((1, 0, 0, 0, @List.nil (den TermT),
    0) :: @List.nil (den NodeT)) :: @List.nil (den NodeT.list))) (need (allOK (a :: b :: @List.nil (den NodeT.list))) (AOut.ret (AV.bool (sameF (corF (a :: b :: ((1,
    0, 0, 0, @List.nil (den TermT), 0) :: @List.nil (den NodeT)) :: @List.nil (den NodeT.list))) (corF (a :: b :: @List.nil (den NodeT.list))))) = AOut.ret (AV.bool
    true)))) (need (eqT false false) (AOut.ret (AV.bool false) = AOut.ret (AV.bool true)))))) (need (eqT false false) (need (eqT false false) (AOut.ret (AV.bool false)
    = AOut.ret (AV.bool true)))))) (need (eqT false false) (need (eqT false false) (need (eqT false false) (AOut.ret (AV.bool false) = AOut.ret (AV.bool true)))))))))))))) := by kernel_rfl
theorem CoreAnds_call : CallOK Try.prog (acall tab fs_alive specs_copiedS fns 100 20) := mkCall fsOK_alive specsOK_copiedS fnsOK
theorem CoreAnds_go (a b : List (den NodeT)) : LawEv (acall tab fs_alive specs_copiedS fns 100 20) 3 [.view [] NodeT a, .view [] NodeT b] := by
  refine ⟨?_⟩
  rw [CoreAnds_eq]
  have ha := light_tree (n := a)
  have hb := light_tree (n := b)
  have hla := light_len (n := a)
  have hlb := light_len (n := b)
  have c1 : candF [a, b] = notF (corF [notF a, notF b]) := rfl
  have c2 : candF [a, b, [(0, 0, 0, 0, [], 0)]] = candF [a, b] := cand_true [a, b]
  have c3 : candF [a, a] = candF [a] := cand_again [a]
  have c4 : corF [a, b, [(1, 0, 0, 0, [], 0)]] = corF [a, b] := cor_false [a, b]
  rw [c2, c3, c4, ← c1]
  simp only [sameF_self]
  simp only [need_def, appL_def, ifB_def, impB_def, selB_f, selB_t, selI_def, selX_def, notB_def, andB_def, orB_def, beqB_def, ltB_def, leB_def, eqB_def, seqB_def, eqI_def, eqL_def, eqS_def, eqD_def, eqT_def, imp_def, inI_def, nzI_def, geZ_def, ret_bool, ret_int, Bool.and_eq_true, Bool.or_eq_true, Bool.not_eq_true', Bool.not_eq_false', decide_eq_true_eq, decide_eq_false_iff_not, Bool.and_eq_false_iff, Bool.or_eq_false_iff, Int.not_lt, Int.not_le, true_and, and_true, implies_true, Bool.false_eq_true, Bool.true_eq_false, false_implies, forall_const, reduceCtorEq, if_true, if_false, true_implies, false_and, and_false, false_or, or_false, true_or, or_true]
  refine ⟨fun h => (ha h.1).1, fun h => (hb h.1.2).1, fun h => ?_⟩
  obtain ⟨⟨⟨⟨⟨h1, h2⟩, _⟩, _⟩, _⟩, _⟩ := h
  have ka := ha h1
  have kb := hb h2
  have la := hla h1
  have lb := hlb h2
  have na := not_size ka.2
  have nb := not_size kb.2
  have t1 : allTF [a] := tfs_cons ka.2 tfs_nil
  have t2 : allTF [a, b] := tfs_cons ka.2 (tfs_cons kb.2 tfs_nil)
  have t3 : allTF [a, a] := tfs_cons ka.2 t1
  have t4 : allTF [notF a, notF b] := tfs_cons na.2 (tfs_cons nb.2 tfs_nil)
  have t5 : allTF [a, b, [nd 0]] := tfs_cons ka.2 (tfs_cons kb.2 (tfs_cons (tf_nd 0) tfs_nil))
  have t6 : allTF [a, b, [nd 1]] := tfs_cons ka.2 (tfs_cons kb.2 (tfs_cons (tf_nd 1) tfs_nil))
  have z0 : lenI [nd 0] = 1 := rfl
  have z1 : lenI [nd 1] = 1 := rfl
  have g4 := or_size t4
  rw [lens_cons, lens_cons, lens_nil] at g4
  have q5 : andOK [a, b, [nd 0]] := andOK_of t5 (by simp [lenI]) (by (repeat rw [lens_cons]); rw [lens_nil]; omega)
  have q6 : allOK [a, b, [nd 1]] := allOK_of t6 (by simp [lenI]) (by (repeat rw [lens_cons]); rw [lens_nil]; omega)
  refine ⟨andOK_of t2 (by simp [lenI]) (by (repeat rw [lens_cons]); rw [lens_nil]; omega), ka, kb, allOK_of t4 (by simp [lenI]) (by (repeat rw [lens_cons]); rw [lens_nil]; omega), treeOK_of g4.2 (by omega),
    q5, andOK_of t3 (by simp [lenI]) (by (repeat rw [lens_cons]); rw [lens_nil]; omega), andOK_of t1 (by simp [lenI]) (by (repeat rw [lens_cons]); rw [lens_nil]; omega),
    q6, allOK_of t2 (by simp [lenI]) (by (repeat rw [lens_cons]); rw [lens_nil]; omega)⟩
theorem CoreAnds_ev : ∀ xs : DT [(.list (.prod (.int .i64) (.prod (.int .i64) (.prod (.int .i64) (.prod (.int .i64) (.prod (.list (.prod .str (.int .i64))) (.int .i64))))))), (.list (.prod (.int .i64) (.prod (.int .i64) (.prod (.int .i64) (.prod (.int .i64) (.prod (.list (.prod .str (.int .i64))) (.int .i64)))))))], wfs [(.list (.prod (.int .i64) (.prod (.int .i64) (.prod (.int .i64) (.prod (.int .i64) (.prod (.list (.prod .str (.int .i64))) (.int .i64))))))), (.list (.prod (.int .i64) (.prod (.int .i64) (.prod (.int .i64) (.prod (.int .i64) (.prod (.list (.prod .str (.int .i64))) (.int .i64)))))))] xs → LawEv (acall tab fs_alive specs_copiedS fns 100 20) 3 (argsA tab #[22, 22].toList [(.list (.prod (.int .i64) (.prod (.int .i64) (.prod (.int .i64) (.prod (.int .i64) (.prod (.list (.prod .str (.int .i64))) (.int .i64))))))), (.list (.prod (.int .i64) (.prod (.int .i64) (.prod (.int .i64) (.prod (.int .i64) (.prod (.list (.prod .str (.int .i64))) (.int .i64)))))))] xs) := by
  rintro ⟨a, b, ⟨⟩⟩ hw
  exact CoreAnds_go a b



theorem CoreAnds_own : ownKnob Try.prog.godebug = none := by kernel_rfl
theorem CoreAnds_kids : Kids Try.prog (· < Try.prog.types.size) := kids_rows (by kernel_rfl) (by kernel_rfl)
theorem CoreAnds_full : ∀ t e, t < Try.prog.types.size → Try.prog.underlying t = some (.slice e) → 0 < Try.prog.cellsOf e := slices_full_of _ (by kernel_rfl)

theorem CoreAnds_lifted (os : Os) (started : os.Started) (H : Type) (enc : TypeId × Value → H) :
    ReturnsInHanded {} Try.checked os 3 .any (Rows.coreAndsSpec.pre6 enc Try.prog Try.f3 Rows.coreAndsRow.domain false) (Rows.coreAndsSpec.post enc Try.prog Try.f3 false true false false) := by
  refine returnsInHanded_of_change_shaped (C := Try.checked) CoreAnds_own started (by kernel_rfl) Try.func3
    (ChangeSpec.witness6 (enc := enc) (C := Try.checked) false ⟨#[], #[(Value.slice none 0 0), (Value.slice none 0 0)], []⟩ 8 (by kernel_rfl) (by kernel_rfl) (by kernel_rfl) (by kernel_rfl)) ?_
  intro W base args ds gs before hval hW _ hwt _ _
  refine law_contract' (P := Try.prog) (fn := Try.f3) (s := Rows.coreAndsSpec) (tb := 4) (Ts := [(.list (.prod (.int .i64) (.prod (.int .i64) (.prod (.int .i64) (.prod (.int .i64) (.prod (.list (.prod .str (.int .i64))) (.int .i64))))))), (.list (.prod (.int .i64) (.prod (.int .i64) (.prod (.int .i64) (.prod (.int .i64) (.prod (.list (.prod .str (.int .i64))) (.int .i64)))))))]) (call := (acall tab fs_alive specs_copiedS fns 100 20)) (f := 3) tabOK CoreAnds_call CoreAnds_kids CoreAnds_full Try.params3 (by decide +kernel) rfl rfl Try.underlying4 ?_ (by kernel_rfl) CoreAnds_ev hval hW hwt
  intro ds hl
  match ds, hl with
  | [d0, d1], _ => rfl

theorem CoreAnds_holds : Rows.CoreAndsSaid :=
  OpenClaim.holds_of_wide 3 Try.f3 rfl rfl rfl rfl rfl rfl rfl ⟨rfl, rfl, rfl, rfl, rfl⟩ rfl rfl rfl rfl rfl (by kernel_rfl) Try.func3 (by kernel_rfl)
    (of_decide_eq_true (by kernel_rfl)) (by unfold Func.isWrapper; first | (rw [if_pos (by decide +kernel)]; kernel_rfl) | (rw [if_neg (by decide +kernel)]; exact ⟨rfl, rfl⟩))
    (fun os started H enc _ => CoreAnds_lifted os started H enc)

end Go.Proofs.Ytmnifphhdeppnaa
