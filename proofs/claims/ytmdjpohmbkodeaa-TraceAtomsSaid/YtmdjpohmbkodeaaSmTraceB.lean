/- Exact sums: what an atom comes to. -/
import Derived.Test.YtmdjpohmbkodeaaSmTraceA
namespace Go.Proofs.Ytmdjpohmbkodeaa.Sx
open Go.RowKit
set_option maxRecDepth 100000
set_option maxHeartbeats 4000000
set_option linter.unusedVariables false
set_option linter.unusedSimpArgs false
theorem sumS_two (a b c x y z : Int) : sumF ((a, b, c) :: (x, y, z) :: @List.nil (den SumT)) = (a + b * 18446744073709551616 + c * 340282366920938463463374607431768211456) + (x + y * 18446744073709551616 + z * 340282366920938463463374607431768211456) := by
  unfold sumF
  simp only [sumS, sv]
  omega
noncomputable def negS : List AV → OV := fun args => match args with | [.agg [.int .u64 a, .int .u64 b, .int .u64 c]] => some ([rU a, rU b, rU c], .agg [.int .u64 (w0 (negF a b c)), .int .u64 (w1 (negF a b c)), .int .u64 (w2 (negF a b c))]) | _ => none
theorem neg_eq (a b c : Int) : acall tab fs_plus specs_copiedS fns 100 20 43 [.agg [.int .u64 a, .int .u64 b, .int .u64 c]] [] (fun o mm _ _ => resN (.any) mm o = .ret (.agg [.int .u64 (w0 (negF a b c)), .int .u64 (w1 (negF a b c)), .int .u64 (w2 (negF a b c))])) =
  (need (inI 0 3) (need (inI 1 3) (need (inI 2 3) (AOut.ret (AV.agg (AV.int IntKind.u64 (w0 (sumF ((bxorW IntKind.u64 a 18446744073709551615, bxorW IntKind.u64 b 18446744073709551615,
    bxorW IntKind.u64 c 18446744073709551615) :: (1, 0, 0) :: @List.nil (den SumT)))) :: AV.int IntKind.u64 (w1 (sumF ((bxorW IntKind.u64 a 18446744073709551615, bxorW
    IntKind.u64 b 18446744073709551615, bxorW IntKind.u64 c 18446744073709551615) :: (1, 0, 0) :: @List.nil (den SumT)))) :: AV.int IntKind.u64 (w2 (sumF ((bxorW IntKind.u64
    a 18446744073709551615, bxorW IntKind.u64 b 18446744073709551615, bxorW IntKind.u64 c 18446744073709551615) :: (1, 0, 0) :: @List.nil (den SumT)))) :: @List.nil
    AV)) = AOut.ret (AV.agg (AV.int IntKind.u64 (w0 (negF a b c)) :: AV.int IntKind.u64 (w1 (negF a b c)) :: AV.int IntKind.u64 (w2 (negF a b c)) :: @List.nil AV)))))) := by kernel_rfl
theorem neg_ok : SpecOK Try.prog 43 (fspecS (pureN [] negS)) := pureN_ok (mkCall fsOK_plus specsOK_copiedS fnsOK) (.any) (fun vs w => Try.call43 vs w) fun args ps v h hp hw => by
  unfold negS at h
  split at h
  · cases h
    rename_i a b c
    rw [neg_eq]
    refine ⟨?_⟩
    simp only [allP_cons, allP_nil, and_true] at hp
    simp only [wfAL, wfA, wfS, wfM, wfB, and_true, true_and, wfT_int, wfT_str, wfT_bool, wfT_prod] at hw
    obtain ⟨h1, h2, h3⟩ := hp
    simp only [not_val h1, not_val h2, not_val h3]
    have := w_mod (x := sumF ((notU a, notU b, notU c) :: ((1 : Int), (0 : Int), (0 : Int)) :: @List.nil (den SumT))) (y := negF a b c) (by rw [sumS_two]; unfold notU negF; omega)
    simp only [this.1, this.2.1, this.2.2]
    simp only [simpsL, implies_true, forall_const, if_true, if_false, reduceCtorEq]
    repeat' (first | with_reducible rfl | omega | trivial | refine ⟨?_, ?_⟩ | intro _)
  · cases h
noncomputable def FF_neg : FSpec := pureN [] negS
theorem FFok_neg : SpecOK Try.prog 43 (fspecS FF_neg) := neg_ok
noncomputable def fs_neg : FS := (43, FF_neg) :: fs_plus
theorem fsOK_neg : FSOK Try.prog fs_neg := fsOK_cons FFok_neg fsOK_plus
noncomputable def belowS : List AV → OV := fun args => match args with | [.agg [.int .u64 a, .int .u64 b, .int .u64 c]] => some ([rU c], .bool (topB c)) | _ => none
theorem below_eq (a b c : Int) : acall tab fs_neg specs_copiedS fns 100 20 46 [.agg [.int .u64 a, .int .u64 b, .int .u64 c]] [] (fun o mm _ _ => resN (.any) mm o = .ret (.bool (topB c))) =
  (need (inI 2 3) (need (geZ 63) (AOut.ret (AV.bool (eqB (shrW IntKind.u64 c 63) 1)) = AOut.ret (AV.bool (topB c))))) := by kernel_rfl
theorem below_ok : SpecOK Try.prog 46 (fspecS (pureN [] belowS)) := pureN_ok (mkCall fsOK_neg specsOK_copiedS fnsOK) (.any) (fun vs w => Try.call46 vs w) fun args ps v h hp hw => by
  unfold belowS at h
  split at h
  · cases h
    rename_i a b c
    rw [below_eq]
    refine ⟨?_⟩
    simp only [allP_cons, allP_nil, and_true] at hp
    simp only [wfAL, wfA, wfS, wfM, wfB, and_true, true_and, wfT_int, wfT_str, wfT_bool, wfT_prod] at hw
    unfold rU at hp
    refine ⟨⟨by omega, by omega⟩, by unfold geZ; omega, ?_⟩
    rw [shr_val 63 9223372036854775808 (by decide) (by omega)]
    simp only [eqB_def, topB, AOut.ret.injEq, AV.bool.injEq, decide_eq_decide]
    omega
  · cases h
noncomputable def FF_below : FSpec := pureN [] belowS
theorem FFok_below : SpecOK Try.prog 46 (fspecS FF_below) := below_ok
noncomputable def fs_below : FS := (46, FF_below) :: fs_neg
theorem fsOK_below : FSOK Try.prog fs_below := fsOK_cons FFok_below fsOK_neg
theorem w_rU (x : Int) : rU (w0 x) ∧ rU (w1 x) ∧ rU (w2 x) := by unfold rU w0 w1 w2; omega
noncomputable def lessS : List AV → OV := fun args => match args with | [.agg [.int .u64 a, .int .u64 b, .int .u64 c], .agg [.int .u64 x, .int .u64 y, .int .u64 z]] => some ([rU a, rU b, rU c, rU x, rU y, rU z], .bool (lessF a b c x y z)) | _ => none
theorem less_eq (a b c x y z : Int) : acall tab fs_below specs_copiedS fns 100 20 26 [.agg [.int .u64 a, .int .u64 b, .int .u64 c], .agg [.int .u64 x, .int .u64 y, .int .u64 z]] [] (fun o mm _ _ => resN (.any) mm o = .ret (.bool (lessF a b c x y z))) =
  (need (rU x) (need (rU y) (need (rU z) (need (rU (w2 (sumF ((a, b, c) :: (w0 (negF x y z), w1 (negF x y z), w2 (negF x y z)) :: @List.nil (den SumT))))) (AOut.ret
    (AV.bool (topB (w2 (sumF ((a, b, c) :: (w0 (negF x y z), w1 (negF x y z), w2 (negF x y z)) :: @List.nil (den SumT)))))) = AOut.ret (AV.bool (lessF a b c x y z))))))) := by kernel_rfl
theorem less_ok : SpecOK Try.prog 26 (fspecS (pureN [] lessS)) := pureN_ok (mkCall fsOK_below specsOK_copiedS fnsOK) (.any) (fun vs w => Try.call26 vs w) fun args ps v h hp hw => by
  unfold lessS at h
  split at h
  · cases h
    rename_i a b c x y z
    rw [less_eq]
    refine ⟨?_⟩
    simp only [allP_cons, allP_nil, and_true] at hp
    simp only [wfAL, wfA, wfS, wfM, wfB, and_true, true_and, wfT_int, wfT_str, wfT_bool, wfT_prod] at hw
    obtain ⟨h1, h2, h3, h4, h5, h6⟩ := hp
    have hw := w_rU (sumF ((a, b, c) :: (w0 (negF x y z), w1 (negF x y z), w2 (negF x y z)) :: @List.nil (den SumT)))
    have hv : topB (w2 (sumF ((a, b, c) :: (w0 (negF x y z), w1 (negF x y z), w2 (negF x y z)) :: @List.nil (den SumT)))) = lessF a b c x y z := by
      rw [sumS_two]
      unfold topB lessF w2 w0 w1 negF rU at *
      simp only [decide_eq_decide]
      omega
    simp only [hv]
    simp only [simpsL, implies_true, forall_const, if_true, if_false, reduceCtorEq, h4, h5, h6, hw.2.2]
    repeat' (first | with_reducible rfl | omega | trivial | refine ⟨?_, ?_⟩ | intro _)
  · cases h
noncomputable def FF_less : FSpec := pureN [] lessS
theorem FFok_less : SpecOK Try.prog 26 (fspecS FF_less) := less_ok
noncomputable def fs_less : FS := (26, FF_less) :: fs_below
theorem fsOK_less : FSOK Try.prog fs_less := fsOK_cons FFok_less fsOK_below
noncomputable def sizeS : List AV → OV := fun args => match args with | [.int .i64 x] => some ([], .int .u64 (sizeU x)) | _ => none
theorem size_eq (x : Int) : acall tab fs_less specs_copiedS fns 100 20 42 [.int .i64 x] [] (fun o mm _ _ => resN (.any) mm o = .ret (.int .u64 (sizeU x))) =
  (ifB (ltB x 0) (AOut.ret (AV.int IntKind.u64 (subW IntKind.u64 0 (wrI IntKind.u64 x))) = AOut.ret (AV.int IntKind.u64 (sizeU x))) (AOut.ret (AV.int IntKind.u64 (wrI
    IntKind.u64 x)) = AOut.ret (AV.int IntKind.u64 (sizeU x)))) := by kernel_rfl
theorem size_ok : SpecOK Try.prog 42 (fspecS (pureN [] sizeS)) := pureN_ok (mkCall fsOK_less specsOK_copiedS fnsOK) (.any) (fun vs w => Try.call42 vs w) fun args ps v h hp hw => by
  unfold sizeS at h
  split at h
  · cases h
    rename_i x
    rw [size_eq]
    refine ⟨?_⟩
    simp only [allP_cons, allP_nil, and_true] at hp
    simp only [wfAL, wfA, wfS, wfM, wfB, and_true, true_and, wfT_int, wfT_str, wfT_bool, wfT_prod] at hw
    have h := has64r hw
    simp only [wrI, subW, wrapU64]
    by_cases h0 : x < 0
    · have e : (0 - x % 18446744073709551616) % 18446744073709551616 = sizeU x := by unfold sizeU; rw [if_pos h0]; omega
      rw [ltB_t.2 h0, e]
      simp only [simpsL, implies_true, forall_const, if_true, if_false, reduceCtorEq]
      repeat' (first | with_reducible rfl | omega | trivial | refine ⟨?_, ?_⟩ | intro _)
    · have e : x % 18446744073709551616 = sizeU x := by unfold sizeU; rw [if_neg h0]; omega
      rw [ltB_f.2 (Int.not_lt.1 h0), e]
      simp only [simpsL, implies_true, forall_const, if_true, if_false, reduceCtorEq]
      repeat' (first | with_reducible rfl | omega | trivial | refine ⟨?_, ?_⟩ | intro _)
  · cases h
noncomputable def FF_size : FSpec := pureN [] sizeS
theorem FFok_size : SpecOK Try.prog 42 (fspecS FF_size) := size_ok
noncomputable def fs_size : FS := (42, FF_size) :: fs_less
theorem fsOK_size : FSOK Try.prog fs_size := fsOK_cons FFok_size fsOK_less
theorem size_rU {x : Int} (h : IntKind.i64.has x) : rU (sizeU x) := by have := has64r h; unfold sizeU rU; split <;> omega
theorem size_le {x : Int} (h : IntKind.i64.has x) : 0 ≤ sizeU x ∧ sizeU x ≤ 9223372036854775808 := by have := has64r h; unfold sizeU; split <;> omega
theorem pro_sign {x y : Int} : proF x y = if (decide (x < 0) == decide (y < 0)) = true then sizeU x * sizeU y else -(sizeU x * sizeU y) := by
  unfold proF sizeU
  by_cases h1 : x < 0 <;> by_cases h2 : y < 0 <;> simp [h1, h2, Int.neg_mul, Int.mul_neg]
noncomputable def productS : List AV → OV := fun args => match args with | [.int .i64 x, .int .i64 y] => some ([], .agg [.int .u64 (w0 (proF x y)), .int .u64 (w1 (proF x y)), .int .u64 (w2 (proF x y))]) | _ => none
theorem product_eq (x y : Int) : acall tab fs_size specs_copiedS fns 100 20 23 [.int .i64 x, .int .i64 y] [] (fun o mm _ _ => resN (.any) mm o = .ret (.agg [.int .u64 (w0 (proF x y)), .int .u64 (w1 (proF x y)), .int .u64 (w2 (proF x y))])) =
  (need (rU (sizeU x)) (need (rU (sizeU y)) (ifB (notB (beqB (ltB x 0) (ltB y 0))) (need (rU (loM (sizeU x) (sizeU y))) (need (rU (hiM (sizeU x) (sizeU y))) (need (rU
    0) (AOut.ret (AV.agg (AV.int IntKind.u64 (w0 (negF (loM (sizeU x) (sizeU y)) (hiM (sizeU x) (sizeU y)) 0)) :: AV.int IntKind.u64 (w1 (negF (loM (sizeU x) (sizeU
    y)) (hiM (sizeU x) (sizeU y)) 0)) :: AV.int IntKind.u64 (w2 (negF (loM (sizeU x) (sizeU y)) (hiM (sizeU x) (sizeU y)) 0)) :: @List.nil AV)) = AOut.ret (AV.agg (AV.int
    IntKind.u64 (w0 (proF x y)) :: AV.int IntKind.u64 (w1 (proF x y)) :: AV.int IntKind.u64 (w2 (proF x y)) :: @List.nil AV)))))) (AOut.ret (AV.agg (AV.int IntKind.u64
    (loM (sizeU x) (sizeU y)) :: AV.int IntKind.u64 (hiM (sizeU x) (sizeU y)) :: AV.int IntKind.u64 0 :: @List.nil AV)) = AOut.ret (AV.agg (AV.int IntKind.u64 (w0 (proF
    x y)) :: AV.int IntKind.u64 (w1 (proF x y)) :: AV.int IntKind.u64 (w2 (proF x y)) :: @List.nil AV)))))) := by kernel_rfl
theorem product_ok : SpecOK Try.prog 23 (fspecS (pureN [] productS)) := pureN_ok (mkCall fsOK_size specsOK_copiedS fnsOK) (.any) (fun vs w => Try.call23 vs w) fun args ps v h hp hw => by
  unfold productS at h
  split at h
  · cases h
    rename_i x y
    rw [product_eq]
    refine ⟨?_⟩
    simp only [allP_cons, allP_nil, and_true] at hp
    simp only [wfAL, wfA, wfS, wfM, wfB, and_true, true_and, wfT_int, wfT_str, wfT_bool, wfT_prod] at hw
    have h1 := size_rU hw.1
    have h2 := size_rU hw.2
    have hb := mul_bound (size_le hw.1) (size_le hw.2)
    have hs := pro_sign (x := x) (y := y)
    obtain ⟨P, hP⟩ : ∃ P, sizeU x * sizeU y = P := ⟨_, rfl⟩
    rw [hP] at hb hs
    have r1 : rU (hiM (sizeU x) (sizeU y)) := by unfold hiM rU; rw [hP]; omega
    have r2 : rU (loM (sizeU x) (sizeU y)) := by unfold loM rU; rw [hP]; omega
    have r0 : rU 0 := by unfold rU; omega
    cases hc : (decide (x < 0) == decide (y < 0))
    · rw [hc] at hs
      simp only [Bool.false_eq_true, if_false] at hs
      have e := w_mod (x := negF (loM (sizeU x) (sizeU y)) (hiM (sizeU x) (sizeU y)) 0) (y := proF x y) (by unfold negF loM hiM; rw [hP, hs]; omega)
      have hn : notB (beqB (ltB x 0) (ltB y 0)) = true := by unfold notB beqB ltB; rw [hc]; rfl
      simp only [hn, e.1, e.2.1, e.2.2]
      simp only [simpsL, implies_true, forall_const, if_true, if_false, reduceCtorEq, h1, h2, r0, r1, r2]
      repeat' (first | with_reducible rfl | omega | trivial | refine ⟨?_, ?_⟩ | intro _)
    · rw [hc] at hs
      simp only [if_true] at hs
      have hn : notB (beqB (ltB x 0) (ltB y 0)) = false := by unfold notB beqB ltB; rw [hc]; rfl
      have e0 : loM (sizeU x) (sizeU y) = w0 (proF x y) := by unfold loM w0; rw [hP, hs]
      have e1 : hiM (sizeU x) (sizeU y) = w1 (proF x y) := by unfold hiM w1; rw [hP, hs]; omega
      have e2 : (0 : Int) = w2 (proF x y) := by unfold w2; rw [hs]; omega
      have e2' : w2 (proF x y) = 0 := e2.symm
      simp only [hn, e0, e1, e2']
      simp only [simpsL, implies_true, forall_const, if_true, if_false, reduceCtorEq, h1, h2]
      repeat' (first | with_reducible rfl | omega | trivial | refine ⟨?_, ?_⟩ | intro _)
  · cases h
noncomputable def FF_product : FSpec := pureN [] productS
theorem FFok_product : SpecOK Try.prog 23 (fspecS FF_product) := product_ok
noncomputable def fs_product : FS := (23, FF_product) :: fs_size
theorem fsOK_product : FSOK Try.prog fs_product := fsOK_cons FFok_product fsOK_size
def valF (names : List (List UInt8)) (row : List Int) (s : List UInt8) : Int := if idxStr_f s names < 0 ∨ lenI row ≤ idxStr_f s names then 0 else nth (.int .i64) row (idxStr_f s names)
noncomputable def valueS : List AV → OV := fun args => match args with | [.view [] .str names, .view [] (.int .i64) row, .str s] => some ([], .int .i64 (valF names row s)) | _ => none
theorem value_eq (names : List (List UInt8)) (row : List Int) (s : List UInt8) : acall tab fs_product specs_copiedS fns 100 20 24 [.view [] .str names, .view [] (.int .i64) row, .str s] [] (fun o mm _ _ => resN (.any) mm o = .ret (.int .i64 (valF names row s))) =
  (ifB (selB (ltB (idxStr_f s names) 0) true (leB (lenI row) (idxStr_f s names))) (AOut.ret (AV.int IntKind.i64 0) = AOut.ret (AV.int IntKind.i64 (valF names row s)))
    (need (inI (idxStr_f s names) (lenI row)) (AOut.ret (AV.int IntKind.i64 (nth (Ty.int IntKind.i64) row (idxStr_f s names))) = AOut.ret (AV.int IntKind.i64 (valF names
    row s))))) := by kernel_rfl
theorem value_ok : SpecOK Try.prog 24 (fspecS (pureN [.sl .str, .sl (.int .i64), .any] valueS)) := pureN_ok (mkCall fsOK_product specsOK_copiedS fnsOK) (.any) (fun vs w => Try.call24 vs w) fun args ps v h hp hw => by
  unfold valueS at h
  split at h
  · cases h
    rename_i names row s
    rw [value_eq]
    refine ⟨?_⟩
    simp only [allP_cons, allP_nil, and_true] at hp
    simp only [wfAL, wfA, wfS, wfM, wfB, and_true, true_and, wfT_int, wfT_str, wfT_bool, wfT_prod] at hw
    unfold valF
    generalize idxStr_f s names = i
    by_cases h1 : i < 0
    · rw [if_pos (.inl h1), ltB_t.2 h1]
      simp only [simpsL, implies_true, forall_const, if_true, if_false, reduceCtorEq]
      repeat' (first | with_reducible rfl | omega | trivial | refine ⟨?_, ?_⟩ | intro _)
    · by_cases h2 : lenI row ≤ i
      · rw [if_pos (.inr h2), ltB_f.2 (Int.not_lt.1 h1), leB_t.2 h2]
        simp only [simpsL, implies_true, forall_const, if_true, if_false, reduceCtorEq]
        repeat' (first | with_reducible rfl | omega | trivial | refine ⟨?_, ?_⟩ | intro _)
      · rw [if_neg (by omega), ltB_f.2 (Int.not_lt.1 h1), leB_f.2 (Int.not_le.1 h2)]
        simp only [simpsL, implies_true, forall_const, if_true, if_false, reduceCtorEq]
        repeat' (first | with_reducible rfl | omega | trivial | refine ⟨?_, ?_⟩ | intro _)
  · cases h
noncomputable def FF_value : FSpec := pureN [.sl .str, .sl (.int .i64), .any] valueS
theorem FFok_value : SpecOK Try.prog 24 (fspecS FF_value) := value_ok
noncomputable def fs_value : FS := (24, FF_value) :: fs_product
theorem fsOK_value : FSOK Try.prog fs_value := fsOK_cons FFok_value fsOK_product
def prT (names : List (List UInt8)) (row : List Int) (t : den TermT) : den SumT := (w0 (proF t.2 (valF names row t.1)), w1 (proF t.2 (valF names row t.1)), w2 (proF t.2 (valF names row t.1)))
def atomG (names : List (List UInt8)) (row : List Int) : List (den TermT) → Int
  | [] => 0
  | t :: ts => proF t.2 (valF names row t.1) + atomG names row ts
def atomS (ts : List (den TermT)) (names : List (List UInt8)) (row : List Int) : Int := atomG names row ts
def prodL (ts : List (den TermT)) (names : List (List UInt8)) (row : List Int) : List (den SumT) := ts.map (prT names row)
def atomO (ts : List (den TermT)) (names : List (List UInt8)) (row : List Int) : Bool := decide (9223372036854775807 * 4294967296 < atomS ts names row) || decide (atomS ts names row < -9223372036854775808 * 4294967296)
def atomH (ts : List (den TermT)) (num : Int) (names : List (List UInt8)) (row : List Int) : Bool := !(atomO ts names row) && decide (atomS ts names row ≤ num * 4294967296)
def fewT (ts : List (den TermT)) : Prop := lenI ts ≤ 1000
theorem valF_rng {names : List (List UInt8)} {row : List Int} {s : List UInt8} (h : wfT (.list (.int .i64)) row) : -9223372036854775808 ≤ valF names row s ∧ valF names row s ≤ 9223372036854775807 := by
  unfold valF
  split
  · omega
  · exact has64r (wfT_nth h (by omega) (by omega))
theorem pro_bound {x y : Int} (hx : -9223372036854775808 ≤ x ∧ x ≤ 9223372036854775807) (hy : -9223372036854775808 ≤ y ∧ y ≤ 9223372036854775807) : -85070591730234615865843651857942052864 ≤ proF x y ∧ proF x y ≤ 85070591730234615865843651857942052864 := by
  have hs := pro_sign (x := x) (y := y)
  have h1 : 0 ≤ sizeU x ∧ sizeU x ≤ 9223372036854775808 := by unfold sizeU; split <;> omega
  have h2 : 0 ≤ sizeU y ∧ sizeU y ≤ 9223372036854775808 := by unfold sizeU; split <;> omega
  have hb := mul_bound h1 h2
  rw [hs]
  split <;> omega
theorem atom_bound {names : List (List UInt8)} {row : List Int} (h : wfT (.list (.int .i64)) row) : ∀ ts : List (den TermT), wfT (.list TermT) ts → -85070591730234615865843651857942052864 * lenI ts ≤ atomG names row ts ∧ atomG names row ts ≤ 85070591730234615865843651857942052864 * lenI ts
  | [], _ => by simp [atomG, lenI]
  | t :: ts, hw => by
    have ih := atom_bound (names := names) h ts ⟨by have := hw.1; simp only [List.length_cons] at this; omega, fun x hx => hw.2 x (List.mem_cons_of_mem _ hx)⟩
    have hp := pro_bound (has64r (hw.2 t List.mem_cons_self).2) (valF_rng (names := names) (s := t.1) h)
    rw [len_cons]
    simp only [atomG]
    omega
theorem prod_sum {names : List (List UInt8)} {row : List Int} : ∀ ts : List (den TermT), (sumS (ts.map (prT names row)) - atomG names row ts) % 6277101735386680763835789423207666416102355444464034512896 = 0
  | [] => rfl
  | t :: ts => by
    have ih := prod_sum (names := names) (row := row) ts
    simp only [List.map_cons, sumS, atomG, sv, prT]
    generalize sumS (ts.map (prT names row)) = A at ih ⊢
    generalize atomG names row ts = B at ih ⊢
    generalize proF t.2 (valF names row t.1) = P
    unfold w0 w1 w2
    omega
end Go.Proofs.Ytmdjpohmbkodeaa.Sx

