/- Ytmnifphhdeppnaa: the law CoreTwice returns true for every input, and its arguments read as they did: no condition. -/
import Derived.Test.YtmnifphhdeppnaaRows
import Derived.Test.YtmnifphhdeppnaaSxV
import Derived.Test.YtmnifphhdeppnaaSmCoreL
import Derived.Test.YtmnifphhdeppnaaPlCoreQ
import Derived.HandedShaped
namespace Go.Proofs.Ytmnifphhdeppnaa
open Go.ChangeShapes Go.WideShapes Go.ChangeAt Go.RowKit Sx
set_option maxRecDepth 100000
set_option linter.unusedVariables false
set_option linter.unusedSimpArgs false
set_option maxHeartbeats 4000000

theorem CoreTwice_eq (a b : List (den NodeT)) : acall tab fs_alive specs_copiedS fns 100 20 6 [.view [] NodeT a, .view [] NodeT b] [] (fun o _ _ _ => o = .ret (.bool true)) =
  (need (impB (notB (selB (notB (lightF a)) true (notB (lightF b)))) (smallL a)) (need (impB (notB (selB (selB (notB (lightF a)) true (notB (lightF b))) true (notB
    (isCoreF a)))) (smallL b)) (need (impB (notB (selB (selB (selB (selB (notB (lightF a)) true (notB (lightF b))) true (notB (isCoreF a))) true (notB (isCoreF b)))
    true (eqB (lenI a) 0))) (inI 0 (lenI a))) (need (impB (andB (selB (eqB (nth NodeT a 0).fst 3) (ltB 1 (lenI a)) false) (notB (selB (selB (selB (selB (notB (lightF
    a)) true (notB (lightF b))) true (notB (isCoreF a))) true (notB (isCoreF b))) true (eqB (lenI a) 0)))) (inI 1 (lenI a))) (need (impB (andB (notB (eqB (nth NodeT
    a 1).fst 3)) (andB (selB (eqB (nth NodeT a 0).fst 3) (ltB 1 (lenI a)) false) (notB (selB (selB (selB (selB (notB (lightF a)) true (notB (lightF b))) true (notB (isCoreF
    a))) true (notB (isCoreF b))) true (eqB (lenI a) 0))))) (inI 1 (lenI a))) (need (impB (andB (notB (selB (eqB (nth NodeT a 1).fst 3) true (eqB (nth NodeT a 1).fst
    0))) (andB (selB (eqB (nth NodeT a 0).fst 3) (ltB 1 (lenI a)) false) (notB (selB (selB (selB (selB (notB (lightF a)) true (notB (lightF b))) true (notB (isCoreF
    a))) true (notB (isCoreF b))) true (eqB (lenI a) 0))))) (inI 1 (lenI a))) (ifB (selB (selB (selB (selB (selB (notB (lightF a)) true (notB (lightF b))) true (notB
    (isCoreF a))) true (notB (isCoreF b))) true (eqB (lenI a) 0)) true (selB (selB (eqB (nth NodeT a 0).fst 3) (ltB 1 (lenI a)) false) (selB (selB (eqB (nth NodeT a
    1).fst 3) true (eqB (nth NodeT a 1).fst 0)) true (eqB (nth NodeT a 1).fst 1)) false)) (AOut.ret (AV.bool true) = AOut.ret (AV.bool true)) (need (allOK (a :: @List.nil
    (den NodeT.list))) (ifB (notB (sameF (corF (a :: @List.nil (den NodeT.list))) a)) (need (eqT true true) (AOut.ret (AV.bool true) = AOut.ret (AV.bool true))) (need
    (allOK (b :: @List.nil (den NodeT.list))) (ifB (notB (sameF (corF (b :: @List.nil (den NodeT.list))) b)) (AOut.ret (AV.bool true) = AOut.ret (AV.bool true)) (need
    (allOK (a :: b :: @List.nil (den NodeT.list))) (need (treeOK a) (need (treeOK (notF a)) (ifB (sameF (notF (notF a)) a) (need (allOK (corF (a :: b :: @List.nil (den
    NodeT.list)) :: @List.nil (den NodeT.list))) (ifB (sameF (corF (corF (a :: b :: @List.nil (den NodeT.list)) :: @List.nil (den NodeT.list))) (corF (a :: b :: @List.nil
    (den NodeT.list)))) (need (allOK (corF (a :: b :: @List.nil (den NodeT.list)) :: corF (a :: b :: @List.nil (den NodeT.list)) :: @List.nil (den NodeT.list))) (ifB
    (sameF (corF (corF (a :: b :: @List.nil (den NodeT.list)) :: corF (a :: b :: @List.nil (den NodeT.list)) :: @List.nil (den NodeT.list))) (corF (a :: b :: @List.nil
    (den NodeT.list)))) (need (allOK (a :: ((0, 0, 0, 0, @List.nil (den TermT), 0) :: @List.nil (den NodeT)) :: @List.nil (den NodeT.list))) (need (impB (sameF (corF
    (a :: ((0, 0, 0, 0, @List.nil (den TermT), 0) :: @List.nil (den NodeT)) :: @List.nil (den NodeT.list))) ((0, 0, 0, 0, @List.nil (den TermT), 0) :: @List.nil (den
    NodeT))) (inI 0 (lenI a))) (need (impB (andB (notB (eqB (nth NodeT a 0).fst 5)) (sameF (corF (a :: ((0, 0, 0, 0, @List.nil (den TermT), 0) :: @List.nil (den NodeT))
    :: @List.nil (den NodeT.list))) ((0, 0, 0, 0, @List.nil (den TermT), 0) :: @List.nil (den NodeT)))) (inI 0 (lenI a))) (need (impB (andB (selB (eqB (nth NodeT a 0).fst
    3) (ltB 1 (lenI a)) false) (andB (notB (eqB (nth NodeT a 0).fst 5)) (sameF (corF (a :: ((0, 0, 0, 0, @List.nil (den TermT), 0) :: @List.nil (den NodeT)) :: @List.nil
    (den NodeT.list))) ((0, 0, 0, 0, @List.nil (den TermT), 0) :: @List.nil (den NodeT))))) (inI 1 (lenI a))) (need (impB (andB (notB (selB (eqB (nth NodeT a 0).fst
    5) true (selB (selB (eqB (nth NodeT a 0).fst 3) (ltB 1 (lenI a)) false) (eqB (nth NodeT a 1).fst 5) false))) (sameF (corF (a :: ((0, 0, 0, 0, @List.nil (den TermT),
    0) :: @List.nil (den NodeT)) :: @List.nil (den NodeT.list))) ((0, 0, 0, 0, @List.nil (den TermT), 0) :: @List.nil (den NodeT)))) (treeOK a)) (ifB (sameF (corF (a
    :: ((0, 0, 0, 0, @List.nil (den TermT), 0) :: @List.nil (den NodeT)) :: @List.nil (den NodeT.list))) ((0, 0, 0, 0, @List.nil (den TermT), 0) :: @List.nil (den NodeT)))
    (ifB (selB (eqB (nth NodeT a 0).fst 5) true (selB (selB (eqB (nth NodeT a 0).fst 3) (ltB 1 (lenI a)) false) (eqB (nth NodeT a 1).fst 5) false)) (need (eqT true true)
    (need (andOK (a :: ((1, 0, 0, 0, @List.nil (den TermT), 0) :: @List.nil (den NodeT)) :: @List.nil (den NodeT.list))) (need (impB (sameF (candF (a :: ((1, 0, 0, 0,
    @List.nil (den TermT), 0) :: @List.nil (den NodeT)) :: @List.nil (den NodeT.list))) ((1, 0, 0, 0, @List.nil (den TermT), 0) :: @List.nil (den NodeT))) (allOK (@List.nil
    (den NodeT.list)))) (need (impB (selB (sameF (candF (a :: ((1, 0, 0, 0, @List.nil (den TermT), 0) :: @List.nil (den NodeT)) :: @List.nil (den NodeT.list))) ((1,
    0, 0, 0, @List.nil (den TermT), 0) :: @List.nil (den NodeT))) (sameF (corF (@List.nil (den NodeT.list))) ((1, 0, 0, 0, @List.nil (den TermT), 0) :: @List.nil (den
    NodeT))) false) (andOK (@List.nil (den NodeT.list)))) (AOut.ret (AV.bool (selB (selB (sameF (candF (a :: ((1, 0, 0, 0, @List.nil (den TermT), 0) :: @List.nil (den
    NodeT)) :: @List.nil (den NodeT.list))) ((1, 0, 0, 0, @List.nil (den TermT), 0) :: @List.nil (den NodeT))) (sameF (corF (@List.nil (den NodeT.list))) ((1, 0, 0,
    0, @List.nil (den TermT), 0) :: @List.nil (den NodeT))) false) (sameF (candF (@List.nil (den NodeT.list))) ((0, 0, 0, 0, @List.nil (den TermT), 0) :: @List.nil (den
    NodeT))) false)) = AOut.ret (AV.bool true)))))) (need (allOK (a :: notF a :: @List.nil (den NodeT.list))) (ifB (sameF (corF (a :: notF a :: @List.nil (den NodeT.list)))
    ((0, 0, 0, 0, @List.nil (den TermT), 0) :: @List.nil (den NodeT))) (need (andOK (a :: ((1, 0, 0, 0, @List.nil (den TermT), 0) :: @List.nil (den NodeT)) :: @List.nil
    (den NodeT.list))) (need (impB (sameF (candF (a :: ((1, 0, 0, 0, @List.nil (den TermT), 0) :: @List.nil (den NodeT)) :: @List.nil (den NodeT.list))) ((1, 0, 0, 0,
    @List.nil (den TermT), 0) :: @List.nil (den NodeT))) (allOK (@List.nil (den NodeT.list)))) (need (impB (selB (sameF (candF (a :: ((1, 0, 0, 0, @List.nil (den TermT),
    0) :: @List.nil (den NodeT)) :: @List.nil (den NodeT.list))) ((1, 0, 0, 0, @List.nil (den TermT), 0) :: @List.nil (den NodeT))) (sameF (corF (@List.nil (den NodeT.list)))
    ((1, 0, 0, 0, @List.nil (den TermT), 0) :: @List.nil (den NodeT))) false) (andOK (@List.nil (den NodeT.list)))) (AOut.ret (AV.bool (selB (selB (sameF (candF (a ::
    ((1, 0, 0, 0, @List.nil (den TermT), 0) :: @List.nil (den NodeT)) :: @List.nil (den NodeT.list))) ((1, 0, 0, 0, @List.nil (den TermT), 0) :: @List.nil (den NodeT)))
    (sameF (corF (@List.nil (den NodeT.list))) ((1, 0, 0, 0, @List.nil (den TermT), 0) :: @List.nil (den NodeT))) false) (sameF (candF (@List.nil (den NodeT.list)))
    ((0, 0, 0, 0, @List.nil (den TermT), 0) :: @List.nil (den NodeT))) false)) = AOut.ret (AV.bool true))))) (need (eqT false false) (need True (need True (AOut.ret
    (AV.bool false) = AOut.ret (AV.bool true)))))))) (need True (need (eqT false false) (need True (need True (AOut.ret (AV.bool false) = AOut.ret (AV.bool true))))))))))))
    (need (eqT false false) (need True (need (impB (andB (notB (eqB (nth NodeT a 0).fst 5)) false) (inI 0 (lenI a))) (need (impB (andB (selB (eqB (nth NodeT a 0).fst
    3) (ltB 1 (lenI a)) false) (andB (notB (eqB (nth NodeT a 0).fst 5)) false)) (inI 1 (lenI a))) (need (impB (andB (notB (selB (eqB (nth NodeT a 0).fst 5) true (selB
    (selB (eqB (nth NodeT a 0).fst 3) (ltB 1 (lenI a)) false) (eqB (nth NodeT a 1).fst 5) false))) false) (treeOK a)) (need True (need (eqT false false) (need True (need
    True (AOut.ret (AV.bool false) = AOut.ret (AV.bool true))))))))))))) (need (eqT false false) (need (eqT false false) (need True (need (impB (andB (notB (eqB (nth
    NodeT a 0).fst 5)) false) (inI 0 (lenI a))) (need (impB (andB (selB (eqB (nth NodeT a 0).fst 3) (ltB 1 (lenI a)) false) (andB (notB (eqB (nth NodeT a 0).fst 5))
    false)) (inI 1 (lenI a))) (need (impB (andB (notB (selB (eqB (nth NodeT a 0).fst 5) true (selB (selB (eqB (nth NodeT a 0).fst 3) (ltB 1 (lenI a)) false) (eqB (nth
    NodeT a 1).fst 5) false))) false) (treeOK a)) (need True (need (eqT false false) (need True (need True (AOut.ret (AV.bool false) = AOut.ret (AV.bool true))))))))))))))
    (need (eqT false false) (need (eqT false false) (need (eqT false false) (need True (need (impB (andB (notB (eqB (nth NodeT a 0).fst 5)) false) (inI 0 (lenI a)))
    (need (impB (andB (selB (eqB (nth NodeT a 0).fst 3) (ltB 1 (lenI a)) false) (andB (notB (eqB (nth NodeT a 0).fst 5)) false)) (inI 1 (lenI a))) (need (impB (andB
    (notB (selB (eqB (nth NodeT a 0).fst 5) true (selB (selB (eqB (nth NodeT a 0).fst 3) (ltB 1 (lenI a)) false) (eqB (nth NodeT a 1).fst 5) false))) false) (treeOK
    a)) (need True (need (eqT false false) (need True (need True (AOut.ret (AV.bool false) = AOut.ret (AV.bool true)))))))))))))))))))))))))))) := by kernel_rfl
theorem CoreTwice_call : CallOK Try.prog (acall tab fs_alive specs_copiedS fns 100 20) := mkCall fsOK_alive specsOK_copiedS fnsOK
theorem CoreTwice_go (a b : List (den NodeT)) : LawEv (acall tab fs_alive specs_copiedS fns 100 20) 6 [.view [] NodeT a, .view [] NodeT b] := by
  refine ⟨?_⟩
  rw [CoreTwice_eq]
  have ha := light_tree (n := a)
  have hb := light_tree (n := b)
  have hla := light_len (n := a)
  have hlb := light_len (n := b)
  have c1 : candF [] = [nd 0] := by decide
  have c2 : corF [] = [nd 1] := by decide
  have c3 : corF [a, [(0, 0, 0, 0, [], 0)]] = [nd 0] := cor_true
  have c4 : candF [a, [(1, 0, 0, 0, [], 0)]] = [nd 1] := cand_false
  have d0 : ∀ l : List (den NodeT), corF [corF [a, b], corF [a, b]] = corF [corF [a, b]] := fun _ => cor_again [corF [a, b]]
  have c5 := d0 []
  have s0 : sameF [nd 0] [(0, 0, 0, 0, [], 0)] = true := sameF_self _
  have s1 : sameF [nd 1] [(1, 0, 0, 0, [], 0)] = true := sameF_self _
  rw [c1, c2, c3, c4, c5]
  simp only [s0, s1]
  simp only [need_def, appL_def, ifB_def, impB_def, selB_f, selB_t, selI_def, selX_def, notB_def, andB_def, orB_def, beqB_def, ltB_def, leB_def, eqB_def, seqB_def, eqI_def, eqL_def, eqS_def, eqD_def, eqT_def, imp_def, inI_def, nzI_def, geZ_def, ret_bool, ret_int, Bool.and_eq_true, Bool.or_eq_true, Bool.not_eq_true', Bool.not_eq_false', decide_eq_true_eq, decide_eq_false_iff_not, Bool.and_eq_false_iff, Bool.or_eq_false_iff, Int.not_lt, Int.not_le, true_and, and_true, implies_true, Bool.false_eq_true, Bool.true_eq_false, false_implies, forall_const, reduceCtorEq, if_true, if_false, true_implies, false_and, and_false, false_or, or_false, true_or, or_true]
  have hin : ∀ h : ((((lightF a = true ∧ lightF b = true) ∧ isCoreF a = true) ∧ isCoreF b = true) ∧ ¬lenI a = 0), (0 : Int) ≤ 0 ∧ 0 < lenI a := fun h => ⟨Int.le_refl _, by have := lenI_nn a; omega⟩
  refine ⟨fun h => (ha h.1).1, fun h => (hb h.1.2).1, hin, fun h => ⟨by decide, h.1.2⟩, fun h => ⟨by decide, h.2.1.2⟩, fun h => ⟨by decide, h.2.1.2⟩, fun h => ?_⟩
  obtain ⟨hg, hx⟩ := h
  have hi := hin hg
  obtain ⟨⟨⟨⟨h1, h2⟩, ca⟩, cb⟩, hne⟩ := hg
  have ka := ha h1
  have kb := hb h2
  have la := hla h1
  have lb := hlb h2
  have na := not_size ka.2
  have t1 : allTF [a] := tfs_cons ka.2 tfs_nil
  have t1b : allTF [b] := tfs_cons kb.2 tfs_nil
  have t2 : allTF [a, b] := tfs_cons ka.2 (tfs_cons kb.2 tfs_nil)
  have t3 : allTF [a, notF a] := tfs_cons ka.2 (tfs_cons na.2 tfs_nil)
  have t5 : allTF [a, [nd 0]] := tfs_cons ka.2 (tfs_cons (tf_nd 0) tfs_nil)
  have t6 : allTF [a, [nd 1]] := tfs_cons ka.2 (tfs_cons (tf_nd 1) tfs_nil)
  have z0 : lenI [nd 0] = 1 := rfl
  have z1 : lenI [nd 1] = 1 := rfl
  have g4 := or_size t2
  rw [lens_cons, lens_cons, lens_nil] at g4
  have t7 : allTF [corF [a, b]] := tfs_cons g4.2 tfs_nil
  have t8 : allTF [corF [a, b], corF [a, b]] := tfs_cons g4.2 t7
  have q5 : allOK [a, [nd 0]] := allOK_of t5 (by simp [lenI]) (by (repeat rw [lens_cons]); rw [lens_nil]; omega)
  have q6 : andOK [a, [nd 1]] := andOK_of t6 (by simp [lenI]) (by (repeat rw [lens_cons]); rw [lens_nil]; omega)
  have q7 : allOK [] := allOK_of tfs_nil (by simp [lenI]) (by rw [lens_nil]; omega)
  have q8 : andOK [] := andOK_of tfs_nil (by simp [lenI]) (by rw [lens_nil]; omega)
  -- the formula's first part
  cases hae : a with
  | nil => exact absurd (by rw [hae]; rfl) hne
  | cons x l =>
  have hop : ∀ k, isOpF a k = decide ((nth NodeT a 0).1 = k) := fun k => by rw [hae]; rfl
  have hop1 : ∀ k, 1 < lenI a → isOpF (a.drop 1) k = decide ((nth NodeT a 1).1 = k) := fun k hk => by
    rw [hae] at hk ⊢
    cases l with
    | nil => simp [lenI] at hk
    | cons y m => rfl
  have hdrop : isOpF a 3 = true → 1 < lenI a := fun h3 => by
    rw [hae] at h3 ca ⊢
    have hc := core_not ca h3
    have := (partsB_iff.1 hc.2).1
    cases l with
    | nil => exact absurd rfl this
    | cons y m => have := lenI_nn m; rw [len_cons, len_cons]; omega
  have hguard : isOpF a 3 = true → isOpF (a.drop 1) 3 = false ∧ isOpF (a.drop 1) 0 = false ∧ isOpF (a.drop 1) 1 = false := fun h3 => by
    have hl := hdrop h3
    rw [hop1 3 hl, hop1 0 hl, hop1 1 hl]
    rw [hop 3, decide_eq_true_eq] at h3
    rcases hx with (hx | hx) | hx
    · exact absurd h3 hx
    · omega
    · exact ⟨decide_eq_false hx.1.1, decide_eq_false hx.1.2, decide_eq_false hx.2⟩
  have f1 : sameF (notF (notF a)) a = true := sameF_iff.2 (not_not ca hguard)
  rw [← hae]
  simp only [f1]
  refine ⟨allOK_of t1 (by simp [lenI]) (by (repeat rw [lens_cons]); rw [lens_nil]; omega), fun e1 => ⟨allOK_of t1b (by simp [lenI]) (by (repeat rw [lens_cons]); rw [lens_nil]; omega), fun e2 => ?_⟩⟩
  have e1 := sameF_iff.1 e1
  have e2 := sameF_iff.1 e2
  have pa := core_parts ca
  have pb := core_parts cb
  have f2 : sameF (corF [corF [a, b]]) (corF [a, b]) = true := sameF_iff.2 (cor_cor (fun p hp => by
    simp only [List.mem_cons, List.not_mem_nil, or_false] at hp
    rcases hp with rfl | rfl
    · exact pa
    · exact pb) fun n hn => flat_single pa pb e1 e2 hn)
  simp only [f2]
  have q1 : allOK [a, b] := allOK_of t2 (by simp [lenI]) (by (repeat rw [lens_cons]); rw [lens_nil]; omega)
  have q2 : treeOK (notF a) := treeOK_of na.2 (by omega)
  have q3 : allOK [corF [a, b]] := allOK_of t7 (by simp [lenI]) (by (repeat rw [lens_cons]); rw [lens_nil]; omega)
  have q4 : allOK [corF [a, b], corF [a, b]] := allOK_of t8 (by simp [lenI]) (by (repeat rw [lens_cons]); rw [lens_nil]; omega)
  have q9 : allOK [a, notF a] := allOK_of t3 (by simp [lenI]) (by (repeat rw [lens_cons]); rw [lens_nil]; omega)
  have fin : (¬(nth NodeT a 0).1 = 5 ∧ ((¬(nth NodeT a 0).1 = 3 ∨ lenI a ≤ 1) ∨ ¬(nth NodeT a 1).1 = 5)) → sameF (corF [a, notF a]) [(0, 0, 0, 0, [], 0)] = true := by
    rintro ⟨g5, g6⟩
    have h5 : isOpF a 5 = false := by rw [hop 5]; exact decide_eq_false g5
    have hn5 : isOpF (notF a) 5 = false := by
      cases h3 : isOpF a 3 with
      | true =>
        have hl := hdrop h3
        have h3' := h3
        rw [hop 3, decide_eq_true_eq] at h3'
        have h0 : isOpF a 0 = false := by rw [hop 0]; exact decide_eq_false (by rw [h3']; decide)
        have h1' : isOpF a 1 = false := by rw [hop 1]; exact decide_eq_false (by rw [h3']; decide)
        have e : notF a = a.drop 1 := by unfold notF; rw [h0, h1', h3]; rfl
        rw [e, hop1 5 hl]
        rcases g6 with (g6 | g6) | g6
        · exact absurd h3' g6
        · omega
        · exact decide_eq_false g6
      | false =>
        unfold notF
        rw [h3]
        split
        · rfl
        · split
          · rfl
          · rfl
    exact sameF_iff.2 (cor_not ca h5 hn5 fun h3 => (hguard h3).2.2)
  exact ⟨q1, ka, q2, ⟨fun _ => ⟨q3, ⟨fun _ => ⟨q4, ⟨fun _ => ⟨q5, hi, fun _ => hi, fun h => ⟨by decide, h.1.2⟩, fun _ => ka, fun _ => ⟨q6, q7, q8⟩, fun h => ⟨q9, fun _ => ⟨q6, q7, q8⟩, fun hf => by rw [fin h] at hf; cases hf⟩⟩, fun h => by cases h⟩⟩, fun h => by cases h⟩⟩, fun h => by cases h⟩⟩
theorem CoreTwice_ev : ∀ xs : DT [(.list (.prod (.int .i64) (.prod (.int .i64) (.prod (.int .i64) (.prod (.int .i64) (.prod (.list (.prod .str (.int .i64))) (.int .i64))))))), (.list (.prod (.int .i64) (.prod (.int .i64) (.prod (.int .i64) (.prod (.int .i64) (.prod (.list (.prod .str (.int .i64))) (.int .i64)))))))], wfs [(.list (.prod (.int .i64) (.prod (.int .i64) (.prod (.int .i64) (.prod (.int .i64) (.prod (.list (.prod .str (.int .i64))) (.int .i64))))))), (.list (.prod (.int .i64) (.prod (.int .i64) (.prod (.int .i64) (.prod (.int .i64) (.prod (.list (.prod .str (.int .i64))) (.int .i64)))))))] xs → LawEv (acall tab fs_alive specs_copiedS fns 100 20) 6 (argsA tab #[22, 22].toList [(.list (.prod (.int .i64) (.prod (.int .i64) (.prod (.int .i64) (.prod (.int .i64) (.prod (.list (.prod .str (.int .i64))) (.int .i64))))))), (.list (.prod (.int .i64) (.prod (.int .i64) (.prod (.int .i64) (.prod (.int .i64) (.prod (.list (.prod .str (.int .i64))) (.int .i64)))))))] xs) := by
  rintro ⟨a, b, ⟨⟩⟩ hw
  exact CoreTwice_go a b



theorem CoreTwice_own : ownKnob Try.prog.godebug = none := by kernel_rfl
theorem CoreTwice_kids : Kids Try.prog (· < Try.prog.types.size) := kids_rows (by kernel_rfl) (by kernel_rfl)
theorem CoreTwice_full : ∀ t e, t < Try.prog.types.size → Try.prog.underlying t = some (.slice e) → 0 < Try.prog.cellsOf e := slices_full_of _ (by kernel_rfl)

theorem CoreTwice_lifted (os : Os) (started : os.Started) (H : Type) (enc : TypeId × Value → H) :
    ReturnsInHanded {} Try.checked os 6 .any (Rows.coreTwiceSpec.pre6 enc Try.prog Try.f6 Rows.coreTwiceRow.domain false) (Rows.coreTwiceSpec.post enc Try.prog Try.f6 false true false false) := by
  refine returnsInHanded_of_change_shaped (C := Try.checked) CoreTwice_own started (by kernel_rfl) Try.func6
    (ChangeSpec.witness6 (enc := enc) (C := Try.checked) false ⟨#[], #[(Value.slice none 0 0), (Value.slice none 0 0)], []⟩ 8 (by kernel_rfl) (by kernel_rfl) (by kernel_rfl) (by kernel_rfl)) ?_
  intro W base args ds gs before hval hW _ hwt _ _
  refine law_contract' (P := Try.prog) (fn := Try.f6) (s := Rows.coreTwiceSpec) (tb := 4) (Ts := [(.list (.prod (.int .i64) (.prod (.int .i64) (.prod (.int .i64) (.prod (.int .i64) (.prod (.list (.prod .str (.int .i64))) (.int .i64))))))), (.list (.prod (.int .i64) (.prod (.int .i64) (.prod (.int .i64) (.prod (.int .i64) (.prod (.list (.prod .str (.int .i64))) (.int .i64)))))))]) (call := (acall tab fs_alive specs_copiedS fns 100 20)) (f := 6) tabOK CoreTwice_call CoreTwice_kids CoreTwice_full Try.params6 (by decide +kernel) rfl rfl Try.underlying4 ?_ (by kernel_rfl) CoreTwice_ev hval hW hwt
  intro ds hl
  match ds, hl with
  | [d0, d1], _ => rfl

theorem CoreTwice_holds : Rows.CoreTwiceSaid :=
  OpenClaim.holds_of_wide 6 Try.f6 rfl rfl rfl rfl rfl rfl rfl ⟨rfl, rfl, rfl, rfl, rfl⟩ rfl rfl rfl rfl rfl (by kernel_rfl) Try.func6 (by kernel_rfl)
    (of_decide_eq_true (by kernel_rfl)) (by unfold Func.isWrapper; first | (rw [if_pos (by decide +kernel)]; kernel_rfl) | (rw [if_neg (by decide +kernel)]; exact ⟨rfl, rfl⟩))
    (fun os started H enc _ => CoreTwice_lifted os started H enc)

end Go.Proofs.Ytmnifphhdeppnaa
