/- Two formulas alike. -/
import Derived.Test.YtmdjpohmbkodeaaSmTraceP
namespace Go.Proofs.Ytmdjpohmbkodeaa.Sx
open Go.RowKit
set_option maxRecDepth 100000
set_option maxHeartbeats 4000000
set_option linter.unusedVariables false
set_option linter.unusedSimpArgs false
def alikeB (a b : List (den NodeT)) (nm : List (List UInt8)) (rows : List (List Int)) : Bool := selB (selB (notB (eqB (rightE a) 0)) true (notB (eqB (rightE b) 0))) true (selB (sameI (allL a nm rows) (allL b nm rows)) (eqB (lenI (allL a nm rows)) (lenI rows)) false)
theorem alike_of {a b : List (den NodeT)} {nm : List (List UInt8)} {rows : List (List Int)} (hm : midN a) (h : rightE a = 0 → rightE b = 0 → allL a nm rows = allL b nm rows) : alikeB a b nm rows = true := by
  unfold alikeB
  by_cases e : rightE a = 0
  · by_cases f : rightE b = 0
    · have hl := all_len (nm := nm) (rows := rows) e hm
      rw [eqB_t.2 e, eqB_t.2 f, eqB_t.2 hl, h e f]
      simp [selB_t, selB_f, notB_def, sameI]
    · rw [eqB_f.2 f]; simp [selB_t, selB_f, notB_def]
  · rw [eqB_f.2 e]; simp [selB_t, selB_f, notB_def]
noncomputable def alikeS : List AV → OV := fun args => match args with | [.view [] (.prod (.int .i64) (.prod (.int .i64) (.prod (.int .i64) (.prod (.int .i64) (.prod (.list (.prod .str (.int .i64))) (.int .i64)))))) a, .view [] (.prod (.int .i64) (.prod (.int .i64) (.prod (.int .i64) (.prod (.int .i64) (.prod (.list (.prod .str (.int .i64))) (.int .i64)))))) b, .view [] .str nm, .view [] (.list (.int .i64)) rows] => some ([midN a, midN b, oneR (lenI rows)], .bool (alikeB a b nm rows)) | _ => none
theorem alike_eq (a b : List (den NodeT)) (nm : List (List UInt8)) (rows : List (List Int)) : acall tab fs_alive specs_part fns 100 20 20 [.view [] NodeT a, .view [] NodeT b, .view [] .str nm, .view [] (.list (.int .i64)) rows] [] (fun o mm _ _ => resN (.any) mm o = .ret (.bool (alikeB a b nm rows))) =
  (need (midN a) (need (oneR (lenI rows)) (need (midN b) (need (oneR (lenI rows)) (AOut.ret (AV.bool (selB (selB (notB (eqB (rightE a) 0)) true (notB (eqB (rightE b)
    0))) true (selB (sameI (allL a nm rows) (allL b nm rows)) (eqB (lenI (allL a nm rows)) (lenI rows)) false))) = AOut.ret (AV.bool (alikeB a b nm rows))))))) := by kernel_rfl
theorem alike_ok : SpecOK Try.prog 20 (fspecS (pureN [.sl NodeT, .sl NodeT, .sl .str, .sl (.list (.int .i64))] alikeS)) := pureN_ok (mkCall fsOK_alive specsOK_part fnsOK) (.any) (fun vs w => Try.call20 vs w) fun args ps v h hp hw => by
  unfold alikeS at h
  split at h
  · cases h
    rename_i a b nm rows
    rw [alike_eq]
    refine ⟨?_⟩
    simp only [allP_cons, allP_nil, and_true] at hp
    simp only [wfAL, wfA, wfS, wfM, wfB, and_true, true_and, wfT_int, wfT_str, wfT_bool, wfT_prod] at hw
    obtain ⟨hm, hm2, hr⟩ := hp
    unfold alikeB
    by_cases e : rightE a = 0
    · by_cases f : rightE b = 0
      · rw [eqB_t.2 e, eqB_t.2 f]
        cases hs : sameI (allL a nm rows) (allL b nm rows) <;> cases hl : eqB (lenI (allL a nm rows)) (lenI rows) <;> (simp only [simpsL, implies_true, forall_const, if_true, if_false, reduceCtorEq, selB, notB, hs, hl, hm, hm2, hr]; try simp)
      · rw [eqB_f.2 f]; (simp only [simpsL, implies_true, forall_const, if_true, if_false, reduceCtorEq, selB, notB, hm, hm2, hr]; try simp)
    · rw [eqB_f.2 e]; (simp only [simpsL, implies_true, forall_const, if_true, if_false, reduceCtorEq, selB, notB, hm, hm2, hr]; try simp)
  · cases h
noncomputable def FF_alike : FSpec := pureN [.sl NodeT, .sl NodeT, .sl .str, .sl (.list (.int .i64))] alikeS
theorem FFok_alike : SpecOK Try.prog 20 (fspecS FF_alike) := alike_ok
noncomputable def fs_alike : FS := (20, FF_alike) :: fs_alive
theorem fsOK_alike : FSOK Try.prog fs_alike := fsOK_cons FFok_alike fsOK_alive
end Go.Proofs.Ytmdjpohmbkodeaa.Sx

