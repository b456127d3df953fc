/- Ytmnifphhdeppnaa: the law CoreTimes returns true for every input, and its arguments read as they did: no condition. -/
import Derived.Test.YtmnifphhdeppnaaRows
import Derived.Test.YtmnifphhdeppnaaSxV
import Derived.Test.YtmnifphhdeppnaaSmCoreL
import Derived.Test.YtmnifphhdeppnaaPlCoreP
import Derived.HandedShaped
namespace Go.Proofs.Ytmnifphhdeppnaa
open Go.ChangeShapes Go.WideShapes Go.ChangeAt Go.RowKit Sx
set_option maxRecDepth 100000
set_option linter.unusedVariables false
set_option linter.unusedSimpArgs false
set_option maxHeartbeats 4000000

theorem core_false {p : List (den NodeT)} (h : isCoreF p = true) : isOpF p 1 = true ↔ p = [nd 1] := by
  constructor
  · intro h1
    simp only [isCoreF, Bool.and_eq_true, Bool.not_eq_true', List.any_eq_false] at h
    obtain ⟨hB, hN⟩ := h
    cases p with
    | nil => cases h1
    | cons x l =>
      obtain ⟨xo, xn, xf, xt, ts, xm, rfl⟩ : ∃ (q1 q2 q3 q4 : Int) (q5 : List (den TermT)) (q6 : Int), x = (q1, q2, q3, q4, q5, q6) := ⟨_, _, _, _, _, _, rfl⟩
      have h2 : xo = 1 := of_decide_eq_true h1
      have hx := hN _ List.mem_cons_self
      have hx' : fewF xo xn xf xt ts xm = true := by
        cases hc : fewF xo xn xf xt ts xm with
        | true => rfl
        | false => exact absurd (show idxFew_p (xo, xn, xf, xt, ts, xm) = true by unfold idxFew_p notB; dsimp only; rw [hc]; rfl) hx
      simp only [fewF, rightF, aloneF, Bool.and_eq_true, Bool.or_eq_true, decide_eq_true_eq] at hx'
      subst h2
      have hs := partsF_spec hB
      have hn : xn = 0 := by
        obtain ⟨_, ⟨⟨⟨⟨⟨⟨⟨⟨_, a2⟩, _⟩, _⟩, a5⟩, _⟩, _⟩, _⟩, _⟩, _⟩ := hx'
        have b1 : leastF 1 = 0 := rfl
        have b2 : mostF 1 = 0 := rfl
        rw [b1] at a2
        rw [b2] at a5
        omega
      have hft : xf = 0 ∧ xt = 0 ∧ ts = [] ∧ xm = 0 := by
        obtain ⟨_, ⟨⟨⟨⟨⟨⟨⟨⟨_, _⟩, a3⟩, a4⟩, _⟩, _⟩, _⟩, _⟩, _⟩, _⟩ := hx'
        have b1 : timedF 1 = false := rfl
        rw [b1] at a3
        have a3 := a3.resolve_left (by simp)
        have a4 := a4.resolve_left (by omega)
        exact ⟨a3.1, a3.2, len_zero.1 a4.1, a4.2⟩
      obtain ⟨rfl, rfl, rfl, rfl⟩ := hft
      subst hn
      have hp : partsF ((1, 0, 0, 0, [], 0) :: l) = [] := len_zero.1 hs.2.1
      have hl : l = [] := by
        have := hs.1
        rw [hp] at this
        exact this.symm
      rw [hl]; rfl
  · rintro rfl; rfl
theorem core_same {p : List (den NodeT)} (h : isCoreF p = true) : sameF p [(1, 0, 0, 0, [], 0)] = isOpF p 1 := by
  have h1 : sameF p [(1, 0, 0, 0, [], 0)] = true ↔ isOpF p 1 = true := by
    rw [core_false h]
    exact sameF_iff
  cases h2 : isOpF p 1 with
  | true => exact h1.2 h2
  | false =>
    cases h3 : sameF p [(1, 0, 0, 0, [], 0)] with
    | false => rfl
    | true => rw [h1.1 h3] at h2; cases h2
theorem CoreTimes_eq (p q : List (den NodeT)) (fr to : Int) : acall tab fs_alive specs_copiedS fns 100 20 4 [.view [] NodeT p, .view [] NodeT q, .int .i64 fr, .int .i64 to] [] (fun o _ _ _ => o = .ret (.bool true)) =
  (need (impB (notB (selB (notB (lightF p)) true (notB (lightF q)))) (smallL p)) (need (impB (notB (selB (selB (notB (lightF p)) true (notB (lightF q))) true (notB
    (isCoreF p)))) (smallL q)) (ifB (selB (selB (selB (selB (selB (selB (selB (notB (lightF p)) true (notB (lightF q))) true (notB (isCoreF p))) true (notB (isCoreF
    q))) true (eqB (lenI p) 0)) true (eqB (lenI q) 0)) true (ltB fr 0)) true (ltB to (-1))) (AOut.ret (AV.bool true) = AOut.ret (AV.bool true)) (need (treeOK p) (need
    (treeOK q) (ifB (selB (selB (notB (eqB to (-1))) (ltB to fr) false) true (sameF q ((1, 0, 0, 0, @List.nil (den TermT), 0) :: @List.nil (den NodeT)))) (AOut.ret (AV.bool
    (sameF (sinceF fr to p q) ((1, 0, 0, 0, @List.nil (den TermT), 0) :: @List.nil (den NodeT)))) = AOut.ret (AV.bool true)) (ifB (selB (eqB fr 0) (selB (eqB to 0) true
    (sameF p ((1, 0, 0, 0, @List.nil (den TermT), 0) :: @List.nil (den NodeT)))) false) (AOut.ret (AV.bool (sameF (sinceF fr to p q) q)) = AOut.ret (AV.bool true)) (ifB
    (sameF p ((1, 0, 0, 0, @List.nil (den TermT), 0) :: @List.nil (den NodeT))) (AOut.ret (AV.bool (sameF (sinceF fr to p q) ((1, 0, 0, 0, @List.nil (den TermT), 0)
    :: @List.nil (den NodeT)))) = AOut.ret (AV.bool true)) (need (impB (eqB (lenI (sinceF fr to p q)) (addW IntKind.i64 (addW IntKind.i64 (lenI p) (lenI q)) 1)) (inI
    0 (lenI (sinceF fr to p q)))) (need (impB (selB (eqB (lenI (sinceF fr to p q)) (addW IntKind.i64 (addW IntKind.i64 (lenI p) (lenI q)) 1)) (eqB (nth NodeT (sinceF
    fr to p q) 0).fst 10) false) (inI 0 (lenI (sinceF fr to p q)))) (need (impB (selB (selB (eqB (lenI (sinceF fr to p q)) (addW IntKind.i64 (addW IntKind.i64 (lenI
    p) (lenI q)) 1)) (eqB (nth NodeT (sinceF fr to p q) 0).fst 10) false) (eqB (nth NodeT (sinceF fr to p q) 0).snd.snd.fst fr) false) (inI 0 (lenI (sinceF fr to p q))))
    (AOut.ret (AV.bool (selB (selB (selB (eqB (lenI (sinceF fr to p q)) (addW IntKind.i64 (addW IntKind.i64 (lenI p) (lenI q)) 1)) (eqB (nth NodeT (sinceF fr to p q)
    0).fst 10) false) (eqB (nth NodeT (sinceF fr to p q) 0).snd.snd.fst fr) false) (eqB (nth NodeT (sinceF fr to p q) 0).snd.snd.snd.fst to) false)) = AOut.ret (AV.bool
    true))))))))))))) := by kernel_rfl
theorem CoreTimes_call : CallOK Try.prog (acall tab fs_alive specs_copiedS fns 100 20) := mkCall fsOK_alive specsOK_copiedS fnsOK
theorem CoreTimes_go (p q : List (den NodeT)) (fr to : Int) : LawEv (acall tab fs_alive specs_copiedS fns 100 20) 4 [.view [] NodeT p, .view [] NodeT q, .int .i64 fr, .int .i64 to] := by
  refine ⟨?_⟩
  rw [CoreTimes_eq]
  have ha := light_tree (n := p)
  have hb := light_tree (n := q)
  have hla := light_len (n := p)
  have hlb := light_len (n := q)
  have np := lenI_nn p
  have nq := lenI_nn q
  simp only [need_def, appL_def, ifB_def, impB_def, selB_f, selB_t, selI_def, selX_def, notB_def, andB_def, orB_def, beqB_def, ltB_def, leB_def, eqB_def, seqB_def, eqI_def, eqL_def, eqS_def, eqD_def, eqT_def, imp_def, inI_def, nzI_def, geZ_def, ret_bool, ret_int, Bool.and_eq_true, Bool.or_eq_true, Bool.not_eq_true', Bool.not_eq_false', decide_eq_true_eq, decide_eq_false_iff_not, Bool.and_eq_false_iff, Bool.or_eq_false_iff, Int.not_lt, Int.not_le, true_and, and_true, implies_true, Bool.false_eq_true, Bool.true_eq_false, false_implies, forall_const, reduceCtorEq, if_true, if_false, true_implies, false_and, and_false, false_or, or_false, true_or, or_true]
  refine ⟨fun h => (ha h.1).1, fun h => (hb h.1.2).1, fun h => ?_⟩
  obtain ⟨⟨⟨⟨⟨⟨⟨h1, h2⟩, hcp⟩, hcq⟩, _⟩, _⟩, hfr⟩, hto⟩ := h
  have kp := ha h1
  have kq := hb h2
  have lp := hla h1
  have lq := hlb h2
  rw [core_same hcp, core_same hcq]
  have hS : sinceF fr to p q = if isOpF q 1 = true ∨ (to ≠ -1 ∧ to < fr) then [nd 1] else if fr = 0 ∧ to = 0 then q else if isOpF p 1 = true ∧ fr = 0 then q else if isOpF p 1 = true then [nd 1] else makeF 10 fr to [] 0 [p, q] := rfl
  have e1 : addW .i64 (lenI p) (lenI q) = lenI p + lenI q := addW64 (by omega) (by omega)
  have e2 : addW .i64 (lenI p + lenI q) 1 = lenI p + lenI q + 1 := addW64 (by omega) (by omega)
  rw [e1, e2]
  have hsame : ∀ x : List (den NodeT), sameF x x = true := sameF_self
  refine ⟨kp, kq, fun h => ?_, fun h => ⟨fun h3 => ?_, fun h3 => ⟨fun h4 => ?_, fun h4 => ?_⟩⟩⟩
  · rw [hS, if_pos (by rcases h with h | h; exact .inr h; exact .inl h)]; exact hsame _
  · have hn : ¬ (isOpF q 1 = true ∨ (to ≠ -1 ∧ to < fr)) := by rintro (h5 | h5); rw [h5] at h; simp at h; omega
    rw [hS, if_neg hn]
    by_cases h0 : fr = 0 ∧ to = 0
    · rw [if_pos h0]; exact hsame _
    · rw [if_neg h0]
      have h5 : isOpF p 1 = true ∧ fr = 0 := by
        refine ⟨?_, h3.1⟩
        rcases h3.2 with h6 | h6
        · exact absurd ⟨h3.1, h6⟩ h0
        · exact h6
      rw [if_pos h5]; exact hsame _
  · have hn : ¬ (isOpF q 1 = true ∨ (to ≠ -1 ∧ to < fr)) := by rintro (h5 | h5); rw [h5] at h; simp at h; omega
    have hf : fr ≠ 0 := by
      rcases h3 with h5 | h5
      · exact h5
      · rw [h4] at h5; simp at h5
    rw [hS, if_neg hn, if_neg (by omega), if_neg (by rintro ⟨_, h6⟩; exact hf h6), if_pos h4]; exact hsame _
  · have hn : ¬ (isOpF q 1 = true ∨ (to ≠ -1 ∧ to < fr)) := by rintro (h5 | h5); rw [h5] at h; simp at h; omega
    have h0 : ¬ (fr = 0 ∧ to = 0) := by
      rintro ⟨h5, h6⟩
      rcases h3 with h7 | h7
      · exact h7 h5
      · exact h7.1 h6
    have hm : sinceF fr to p q = makeF 10 fr to [] 0 [p, q] := by
      rw [hS, if_neg hn, if_neg h0, if_neg (by rintro ⟨h6, _⟩; rw [h4] at h6; cases h6), if_neg (by rw [h4]; simp)]
    rw [hm]
    have hlen : lenI (makeF 10 fr to [] 0 [p, q]) = lenI p + lenI q + 1 := by
      rw [len_make]; rw [lens_cons, lens_cons, lens_nil]; omega
    have b : (0 : Int) ≤ 0 ∧ 0 < lenI (makeF 10 fr to [] 0 [p, q]) := ⟨by omega, by omega⟩
    exact ⟨fun _ => b, fun _ => b, fun _ => b, ⟨⟨hlen, rfl⟩, rfl⟩, rfl⟩
theorem CoreTimes_ev : ∀ xs : DT [(.list (.prod (.int .i64) (.prod (.int .i64) (.prod (.int .i64) (.prod (.int .i64) (.prod (.list (.prod .str (.int .i64))) (.int .i64))))))), (.list (.prod (.int .i64) (.prod (.int .i64) (.prod (.int .i64) (.prod (.int .i64) (.prod (.list (.prod .str (.int .i64))) (.int .i64))))))), (.int .i64), (.int .i64)], wfs [(.list (.prod (.int .i64) (.prod (.int .i64) (.prod (.int .i64) (.prod (.int .i64) (.prod (.list (.prod .str (.int .i64))) (.int .i64))))))), (.list (.prod (.int .i64) (.prod (.int .i64) (.prod (.int .i64) (.prod (.int .i64) (.prod (.list (.prod .str (.int .i64))) (.int .i64))))))), (.int .i64), (.int .i64)] xs → LawEv (acall tab fs_alive specs_copiedS fns 100 20) 4 (argsA tab #[22, 22, 3, 3].toList [(.list (.prod (.int .i64) (.prod (.int .i64) (.prod (.int .i64) (.prod (.int .i64) (.prod (.list (.prod .str (.int .i64))) (.int .i64))))))), (.list (.prod (.int .i64) (.prod (.int .i64) (.prod (.int .i64) (.prod (.int .i64) (.prod (.list (.prod .str (.int .i64))) (.int .i64))))))), (.int .i64), (.int .i64)] xs) := by
  rintro ⟨p, q, fr, to, ⟨⟩⟩ hw
  exact CoreTimes_go p q fr to



theorem CoreTimes_own : ownKnob Try.prog.godebug = none := by kernel_rfl
theorem CoreTimes_kids : Kids Try.prog (· < Try.prog.types.size) := kids_rows (by kernel_rfl) (by kernel_rfl)
theorem CoreTimes_full : ∀ t e, t < Try.prog.types.size → Try.prog.underlying t = some (.slice e) → 0 < Try.prog.cellsOf e := slices_full_of _ (by kernel_rfl)

theorem CoreTimes_lifted (os : Os) (started : os.Started) (H : Type) (enc : TypeId × Value → H) :
    ReturnsInHanded {} Try.checked os 4 .any (Rows.coreTimesSpec.pre6 enc Try.prog Try.f4 Rows.coreTimesRow.domain false) (Rows.coreTimesSpec.post enc Try.prog Try.f4 false true false false) := by
  refine returnsInHanded_of_change_shaped (C := Try.checked) CoreTimes_own started (by kernel_rfl) Try.func4
    (ChangeSpec.witness6 (enc := enc) (C := Try.checked) false ⟨#[], #[(Value.slice none 0 0), (Value.slice none 0 0), (Value.int IntKind.i64 0), (Value.int IntKind.i64 0)], []⟩ 8 (by kernel_rfl) (by kernel_rfl) (by kernel_rfl) (by kernel_rfl)) ?_
  intro W base args ds gs before hval hW _ hwt _ _
  refine law_contract' (P := Try.prog) (fn := Try.f4) (s := Rows.coreTimesSpec) (tb := 4) (Ts := [(.list (.prod (.int .i64) (.prod (.int .i64) (.prod (.int .i64) (.prod (.int .i64) (.prod (.list (.prod .str (.int .i64))) (.int .i64))))))), (.list (.prod (.int .i64) (.prod (.int .i64) (.prod (.int .i64) (.prod (.int .i64) (.prod (.list (.prod .str (.int .i64))) (.int .i64))))))), (.int .i64), (.int .i64)]) (call := (acall tab fs_alive specs_copiedS fns 100 20)) (f := 4) tabOK CoreTimes_call CoreTimes_kids CoreTimes_full Try.params4 (by decide +kernel) rfl rfl Try.underlying4 ?_ (by kernel_rfl) CoreTimes_ev hval hW hwt
  intro ds hl
  match ds, hl with
  | [d0, d1, d2, d3], _ => rfl

theorem CoreTimes_holds : Rows.CoreTimesSaid :=
  OpenClaim.holds_of_wide 4 Try.f4 rfl rfl rfl rfl rfl rfl rfl ⟨rfl, rfl, rfl, rfl, rfl⟩ rfl rfl rfl rfl rfl (by kernel_rfl) Try.func4 (by kernel_rfl)
    (of_decide_eq_true (by kernel_rfl)) (by unfold Func.isWrapper; first | (rw [if_pos (by decide +kernel)]; kernel_rfl) | (rw [if_neg (by decide +kernel)]; exact ⟨rfl, rfl⟩))
    (fun os started H enc _ => CoreTimes_lifted os started H enc)

end Go.Proofs.Ytmnifphhdeppnaa
