/- The modes: what the small functions come to. -/
import Derived.Test.YtbgifokhlbaapaaSxV
import Derived.Test.YtbgifokhlbaapaaSx10
namespace Go.Proofs.Ytbgifokhlbaapaa.Sx
open Go.RowKit
set_option maxRecDepth 100000
set_option maxHeartbeats 4000000
set_option linter.unusedVariables false
set_option linter.unusedSimpArgs false
def calmF (a b c : Int) (d : Bool) : Bool := decide (3 ≤ a) && decide (b ≤ 0) && decide (c ≤ 0) && d
def nextF (k a b c : Int) (d r : Bool) : Int := if k = 3 ∨ a ≤ 0 then 3 else if d = false ∨ a = 1 then 2 else if k = 2 ∧ r = false then 2 else if k = 2 ∨ calmF a b c d = false then 1 else if k = 1 ∧ r = false then 1 else 0
def aliveS : List AV → List Blk → AK → Prop := fun args m K => match args with | [] => K (.ret (.bool true)) m [] [] | _ => False
noncomputable def calmS : List AV → List Blk → AK → Prop := fun args m K => match args with | [.agg [.int .i64 a, .int .i64 b, .int .i64 c, .bool d]] => K (.ret (.bool (calmF a b c d))) m [] [] | _ => False
noncomputable def nextS : List AV → List Blk → AK → Prop := fun args m K => match args with | [.int .i64 k, .agg [.int .i64 a, .int .i64 b, .int .i64 c, .bool d], .bool r] => K (.ret (.int .i64 (nextF k a b c d r))) m [] [] | _ => False
noncomputable def specs1 : Specs := [(8, aliveS), (22, calmS), (23, calmS)]
noncomputable def specs : Specs := (9, nextS) :: (14, nextS) :: specs1
theorem alive_eq  : acall tab [] fns 100 20 8 [] [] (fun o _ _ _ => o = .ret (.bool true)) =
  (eqI 0 0 (eqI 3 3 (eqI 0 0 (eqI 0 0 (eqL true true (eqI 1 1 (eqI 2 2 (eqL false false (eqI 1 1 (eqI 2 2 (eqI 0 0 (eqI 1 1 (eqI 0 0 (eqI 0 0 (eqL true true (eqI 0
    0 (eqI 2 2 (eqL false false (eqI 0 0 (eqI 2 2 (eqI 3 3 (eqI 0 0 (eqI 0 0 (eqL true true (eqI 3 3 (eqI 0 0 (eqI 0 0 (eqL true true (eqI 2 2 (eqI 3 3 (eqI 0 0 (eqI
    0 0 (eqL true true (eqI 1 1 (eqI 2 2 (eqL false false (eqI 1 1 (eqI 2 2 (eqI 3 3 (eqI 0 0 (eqI 0 0 (eqL true true (eqI 2 2 (eqI 3 3 (eqI 0 0 (eqI 0 0 (eqL true true
    (eqI 2 2 (eqI 2 2 (eqL true true (eqI 2 2 (eqI 2 2 (AOut.ret (AV.bool true) = AOut.ret (AV.bool true)))))))))))))))))))))))))))))))))))))))))))))))))))))) := by kernel_rfl
theorem calm_eq (a b c : Int) (d : Bool) : acall tab [] fns 100 20 22 [.agg [.int .i64 a, .int .i64 b, .int .i64 c, .bool d]] [] (fun o _ _ _ => o = .ret (.bool (calmF a b c d))) =
  (ifB (leB 3 a) (ifB (leB b 0) (ifB (leB c 0) (AOut.ret (AV.bool d) = AOut.ret (AV.bool (calmF a b c d))) (AOut.ret (AV.bool false) = AOut.ret (AV.bool (calmF a b
    c d)))) (AOut.ret (AV.bool false) = AOut.ret (AV.bool (calmF a b c d)))) (AOut.ret (AV.bool false) = AOut.ret (AV.bool (calmF a b c d)))) := by kernel_rfl
theorem rcalm_eq (a b c : Int) (d : Bool) : acall tab [] fns 100 20 23 [.agg [.int .i64 a, .int .i64 b, .int .i64 c, .bool d]] [] (fun o _ _ _ => o = .ret (.bool (calmF a b c d))) =
  (ifB (leB 3 a) (ifB (leB b 0) (ifB (leB c 0) (AOut.ret (AV.bool d) = AOut.ret (AV.bool (calmF a b c d))) (AOut.ret (AV.bool false) = AOut.ret (AV.bool (calmF a b
    c d)))) (AOut.ret (AV.bool false) = AOut.ret (AV.bool (calmF a b c d)))) (AOut.ret (AV.bool false) = AOut.ret (AV.bool (calmF a b c d)))) := by kernel_rfl
theorem next_eq (k a b c : Int) (d r : Bool) : acall tab specs1 fns 100 20 9 [.int .i64 k, .agg [.int .i64 a, .int .i64 b, .int .i64 c, .bool d], .bool r] [] (fun o _ _ _ => o = .ret (.int .i64 (nextF k a b c d r))) =
  (ifB (eqB k 3) (AOut.ret (AV.int IntKind.i64 3) = AOut.ret (AV.int IntKind.i64 (nextF k a b c d r))) (ifB (leB a 0) (AOut.ret (AV.int IntKind.i64 3) = AOut.ret (AV.int
    IntKind.i64 (nextF k a b c d r))) (ifB (notB d) (AOut.ret (AV.int IntKind.i64 2) = AOut.ret (AV.int IntKind.i64 (nextF k a b c d r))) (ifB (eqB a 1) (AOut.ret (AV.int
    IntKind.i64 2) = AOut.ret (AV.int IntKind.i64 (nextF k a b c d r))) (ifB (eqB k 2) (ifB (notB r) (AOut.ret (AV.int IntKind.i64 2) = AOut.ret (AV.int IntKind.i64
    (nextF k a b c d r))) (ifB (eqB k 2) (AOut.ret (AV.int IntKind.i64 1) = AOut.ret (AV.int IntKind.i64 (nextF k a b c d r))) (ifB (notB (calmF a b c d)) (AOut.ret
    (AV.int IntKind.i64 1) = AOut.ret (AV.int IntKind.i64 (nextF k a b c d r))) (ifB (eqB k 1) (ifB (notB r) (AOut.ret (AV.int IntKind.i64 1) = AOut.ret (AV.int IntKind.i64
    (nextF k a b c d r))) (AOut.ret (AV.int IntKind.i64 0) = AOut.ret (AV.int IntKind.i64 (nextF k a b c d r)))) (AOut.ret (AV.int IntKind.i64 0) = AOut.ret (AV.int
    IntKind.i64 (nextF k a b c d r))))))) (ifB (eqB k 2) (AOut.ret (AV.int IntKind.i64 1) = AOut.ret (AV.int IntKind.i64 (nextF k a b c d r))) (ifB (notB (calmF a b
    c d)) (AOut.ret (AV.int IntKind.i64 1) = AOut.ret (AV.int IntKind.i64 (nextF k a b c d r))) (ifB (eqB k 1) (ifB (notB r) (AOut.ret (AV.int IntKind.i64 1) = AOut.ret
    (AV.int IntKind.i64 (nextF k a b c d r))) (AOut.ret (AV.int IntKind.i64 0) = AOut.ret (AV.int IntKind.i64 (nextF k a b c d r)))) (AOut.ret (AV.int IntKind.i64 0)
    = AOut.ret (AV.int IntKind.i64 (nextF k a b c d r))))))))))) := by kernel_rfl
theorem rnext_eq (k a b c : Int) (d r : Bool) : acall tab specs1 fns 100 20 14 [.int .i64 k, .agg [.int .i64 a, .int .i64 b, .int .i64 c, .bool d], .bool r] [] (fun o _ _ _ => o = .ret (.int .i64 (nextF k a b c d r))) =
  (ifB (eqB k 3) (AOut.ret (AV.int IntKind.i64 3) = AOut.ret (AV.int IntKind.i64 (nextF k a b c d r))) (ifB (leB a 0) (AOut.ret (AV.int IntKind.i64 3) = AOut.ret (AV.int
    IntKind.i64 (nextF k a b c d r))) (ifB (notB d) (AOut.ret (AV.int IntKind.i64 2) = AOut.ret (AV.int IntKind.i64 (nextF k a b c d r))) (ifB (eqB a 1) (AOut.ret (AV.int
    IntKind.i64 2) = AOut.ret (AV.int IntKind.i64 (nextF k a b c d r))) (ifB (eqB k 2) (ifB (notB r) (AOut.ret (AV.int IntKind.i64 2) = AOut.ret (AV.int IntKind.i64
    (nextF k a b c d r))) (ifB (eqB k 2) (AOut.ret (AV.int IntKind.i64 1) = AOut.ret (AV.int IntKind.i64 (nextF k a b c d r))) (ifB (notB (calmF a b c d)) (AOut.ret
    (AV.int IntKind.i64 1) = AOut.ret (AV.int IntKind.i64 (nextF k a b c d r))) (ifB (eqB k 1) (ifB (notB r) (AOut.ret (AV.int IntKind.i64 1) = AOut.ret (AV.int IntKind.i64
    (nextF k a b c d r))) (AOut.ret (AV.int IntKind.i64 0) = AOut.ret (AV.int IntKind.i64 (nextF k a b c d r)))) (AOut.ret (AV.int IntKind.i64 0) = AOut.ret (AV.int
    IntKind.i64 (nextF k a b c d r))))))) (ifB (eqB k 2) (AOut.ret (AV.int IntKind.i64 1) = AOut.ret (AV.int IntKind.i64 (nextF k a b c d r))) (ifB (notB (calmF a b
    c d)) (AOut.ret (AV.int IntKind.i64 1) = AOut.ret (AV.int IntKind.i64 (nextF k a b c d r))) (ifB (eqB k 1) (ifB (notB r) (AOut.ret (AV.int IntKind.i64 1) = AOut.ret
    (AV.int IntKind.i64 (nextF k a b c d r))) (AOut.ret (AV.int IntKind.i64 0) = AOut.ret (AV.int IntKind.i64 (nextF k a b c d r)))) (AOut.ret (AV.int IntKind.i64 0)
    = AOut.ret (AV.int IntKind.i64 (nextF k a b c d r))))))))))) := by kernel_rfl
theorem call0 : CallOK Try.prog (acall tab [] fns 100 20) := acall_ok tabOK specsOK_nil fnsOK (fun hC C => draw_ok tabOK hC mixed C) 20
theorem alive_ok : SpecOK Try.prog 8 aliveS := specOK_pure call0 (fun vs w => Try.call8 vs w) fun args m K h => by
  unfold aliveS at h
  split at h
  · refine ⟨.bool true, ?_, h⟩
    simp only [isoL]
    rw [alive_eq]
    simp [need, eqI, eqL]
  · exact h.elim
theorem calm_ok : SpecOK Try.prog 22 calmS := specOK_pure call0 (fun vs w => Try.call22 vs w) fun args m K h => by
  unfold calmS at h
  split at h
  · rename_i a b c d
    refine ⟨.bool (calmF a b c d), ?_, h⟩
    simp only [isoL, iso]
    rw [calm_eq]
    by_cases h1 : 3 ≤ a <;> by_cases h2 : b ≤ 0 <;> by_cases h3 : c ≤ 0 <;> simp [ifB, leB, calmF, h1, h2, h3]
  · exact h.elim
theorem rcalm_ok : SpecOK Try.prog 23 calmS := specOK_pure call0 (fun vs w => Try.call23 vs w) fun args m K h => by
  unfold calmS at h
  split at h
  · rename_i a b c d
    refine ⟨.bool (calmF a b c d), ?_, h⟩
    simp only [isoL, iso]
    rw [rcalm_eq]
    by_cases h1 : 3 ≤ a <;> by_cases h2 : b ≤ 0 <;> by_cases h3 : c ≤ 0 <;> simp [ifB, leB, calmF, h1, h2, h3]
  · exact h.elim
theorem specs1OK : SpecsOK Try.prog specs1 := specsOK_cons alive_ok (specsOK_cons calm_ok (specsOK_cons rcalm_ok specsOK_nil))
theorem call1 : CallOK Try.prog (acall tab specs1 fns 100 20) := acall_ok tabOK specs1OK fnsOK (fun hC C => draw_ok tabOK hC mixed C) 20
theorem next_ok : SpecOK Try.prog 9 nextS := specOK_pure call1 (fun vs w => Try.call9 vs w) fun args m K h => by
  unfold nextS at h
  split at h
  · rename_i k a b c d r
    refine ⟨.int .i64 (nextF k a b c d r), ?_, h⟩
    simp only [isoL, iso]
    rw [next_eq]
    cases d <;> cases r <;> cases hc : calmF a b c _ <;> by_cases h1 : k = 3 <;> by_cases h2 : k = 2 <;> by_cases h3 : k = 1 <;> by_cases h4 : a ≤ 0 <;> by_cases h5 : a = 1 <;>
      simp [ifB, leB, eqB, notB, nextF, hc, h1, h2, h3, h4, h5]
  · exact h.elim
theorem rnext_ok : SpecOK Try.prog 14 nextS := specOK_pure call1 (fun vs w => Try.call14 vs w) fun args m K h => by
  unfold nextS at h
  split at h
  · rename_i k a b c d r
    refine ⟨.int .i64 (nextF k a b c d r), ?_, h⟩
    simp only [isoL, iso]
    rw [rnext_eq]
    cases d <;> cases r <;> cases hc : calmF a b c _ <;> by_cases h1 : k = 3 <;> by_cases h2 : k = 2 <;> by_cases h3 : k = 1 <;> by_cases h4 : a ≤ 0 <;> by_cases h5 : a = 1 <;>
      simp [ifB, leB, eqB, notB, nextF, hc, h1, h2, h3, h4, h5]
  · exact h.elim
theorem specsOK : SpecsOK Try.prog specs := specsOK_cons next_ok (specsOK_cons rnext_ok specs1OK)
theorem callS : CallOK Try.prog (acall tab specs fns 100 20) := acall_ok tabOK specsOK fnsOK (fun hC C => draw_ok tabOK hC mixed C) 20
theorem nextF_range {k a b c : Int} {d r : Bool} : 0 ≤ nextF k a b c d r ∧ nextF k a b c d r ≤ 3 := by
  unfold nextF
  (repeat' split) <;> omega
/-- A counter a step on, staying at its end. -/
theorem step_count {c : Int} (h : 0 ≤ c ∧ c ≤ 2147483647) : selI (ltB 2147483647 (addW .i64 c 1)) 2147483647 (addW .i64 c 1) = min (c + 1) 2147483647 := by
  rw [addW64 (by omega) (by omega)]
  by_cases hc : 2147483647 < c + 1
  · rw [ltB_t.2 hc]; simp only [selI]; omega
  · rw [ltB_f.2 (by omega)]; simp only [selI]; omega
end Go.Proofs.Ytbgifokhlbaapaa.Sx
