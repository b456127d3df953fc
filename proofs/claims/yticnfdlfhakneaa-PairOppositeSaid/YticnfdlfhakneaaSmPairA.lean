/- The pairs: what the functions come to. -/
import Derived.Test.YticnfdlfhakneaaSxV
import Derived.Test.YticnfdlfhakneaaSx12
import Derived.Laws.Externs
namespace Go.Proofs.Yticnfdlfhakneaa.Sx
open Go.RowKit
set_option maxRecDepth 100000
set_option maxHeartbeats 4000000
set_option linter.unusedVariables false
set_option linter.unusedSimpArgs false
def rI (a : Int) : Prop := -9223372036854775808 ≤ a ∧ a ≤ 9223372036854775807
def apartF (a b : Int) : Int := if a ≤ b then b - a else a - b
def senseF (i h i' h' al : Int) : Int := if al < 1 ∨ al ≤ apartF h h' then 0 else if h' < h then 1 else if h < h' then 2 else if i' < i then 1 else if i < i' then 2 else 0
def c01 (c : Int) : Prop := c = 0 ∨ c = 1
def rU (a : Int) : Prop := 0 ≤ a ∧ a < 18446744073709551616
def sum3 (x y c : Int) : Int := (x + y + c) % 18446744073709551616
def car3 (x y c : Int) : Int := (x + y + c) / 18446744073709551616
def wv (a b c : Int) : Int := a * 340282366920938463463374607431768211456 + b * 18446744073709551616 + c
def d0 (w : Int) : Int := w % 18446744073709551616
def d1 (w : Int) : Int := w / 18446744073709551616 % 18446744073709551616
def d2 (w : Int) : Int := w / 340282366920938463463374607431768211456 % 18446744073709551616
def wok (a b c w : Int) : Prop := rU a ∧ rU b ∧ rU c ∧ wv a b c = w % 6277101735386680763835789423207666416102355444464034512896
def topB (a : Int) : Bool := decide (9223372036854775808 ≤ a)
def absW (a b c : Int) : Int := if 9223372036854775808 ≤ a then -wv a b c else wv a b c
def hiM (x y : Int) : Int := x * y / 18446744073709551616
def loM (x y : Int) : Int := x * y % 18446744073709551616
def notU (a : Int) : Int := 18446744073709551615 - a
def gapF (h h' g' s : Int) : Int := if min (apartF h h') 9223372036854775807 ≤ min (max s 0 * max g' 0) 9223372036854775807 then 0 else min (apartF h h') 9223372036854775807 - min (max s 0 * max g' 0) 9223372036854775807
def roomF (h m ls s h' g' : Int) : Bool := decide (ls ≤ apartF (h + m) h' - max s 0 * (max g' 0 + 1))
noncomputable def add64S : FSpec := fun args m => match args with | [.int .u64 x, .int .u64 y, .int .u64 c] => some ([c01 c], .tup [.int .u64 (sum3 x y c), .int .u64 (car3 x y c)]) | _ => none
theorem add64_ext : ExtOK Try.prog 32 add64S := fun args m ps v h hp E w vs hR => by
  unfold add64S at h
  split at h
  · cases h
    obtain ⟨v1, us, rfl, h1, hR⟩ := hR
    obtain ⟨v2, us, rfl, h2, hR⟩ := hR
    obtain ⟨v3, us, rfl, h3, hR⟩ := hR
    simp only [RelL] at hR
    subst hR
    obtain ⟨rfl, g1⟩ := h1
    obtain ⟨rfl, g2⟩ := h2
    obtain ⟨rfl, g3⟩ := h3
    have e1 : IntKind.u64.min = 0 := by decide
    have e2 : IntKind.u64.max = 18446744073709551615 := by decide
    unfold IntKind.has at g1 g2 g3
    rw [e1, e2] at g1 g2 g3
    have hc : c01 _ := (allP_cons.1 hp).1
    unfold c01 at hc
    refine ⟨_, ?_, ⟨_, rfl, _, _, rfl, ⟨rfl, ?_⟩, _, _, rfl, ⟨rfl, ?_⟩, rfl⟩⟩
    · rw [run_callFunc_extern Try.func32 (by kernel_rfl) (by kernel_rfl) (by kernel_rfl) (e := add64Entry) (by kernel_rfl), run_add64 _ _ _ g1.1 g2.1 (by omega) (by omega)]
      rfl
    · unfold IntKind.has sum3; rw [e1, e2]; omega
    · unfold IntKind.has car3; rw [e1, e2]; omega
  · cases h
noncomputable def fsA : FS := [(1000032, add64S)]
theorem fsA_ok : FSOK Try.prog fsA := fsOK_ext (f := 32) add64_ext fsOK_nil
theorem apart_val {a b : Int} (ha : rI a) (hb : rI b) : subW .u64 (wrI .u64 (selI (ltB a b) b a)) (wrI .u64 (selI (ltB b a) b a)) = apartF a b := by
  unfold rI at ha hb
  simp only [subW, wrI, wrapU64, selI_def, ltB_def, decide_eq_true_eq, apartF]
  (repeat' split) <;> omega
theorem selmin {a b : Int} : selI (ltB b a) b a = min a b := by simp only [selI_def, ltB_def, decide_eq_true_eq]; split <;> omega
theorem selmax {a b : Int} : selI (ltB a b) b a = max a b := by simp only [selI_def, ltB_def, decide_eq_true_eq]; split <;> omega
theorem max_val {s : Int} (h : rI s) : wrI .u64 (selI (ltB s 0) 0 s) = max s 0 := by
  unfold rI at h; rw [selmax]; simp only [wrI, wrapU64]; omega
theorem max_rU {s : Int} (h : rI s) : rU (max s 0) := by unfold rI rU at *; omega
theorem apart_bound {a b : Int} (ha : rI a) (hb : rI b) : 0 ≤ apartF a b ∧ apartF a b < 18446744073709551616 := by
  unfold rI at ha hb; unfold apartF; split <;> omega
noncomputable def apartS : List AV → OV := fun args => match args with | [.int .i64 a, .int .i64 b] => some ([rI a, rI b], .int .u64 (apartF a b)) | _ => none
theorem apart_eq (a b : Int) : acall tab fsA [] fns 100 20 17 [.int .i64 a, .int .i64 b] [] (fun o mm _ _ => resN (.any) mm o = .ret (.int .u64 (apartF a b))) =
  (AOut.ret (AV.int IntKind.u64 (subW IntKind.u64 (wrI IntKind.u64 (selI (ltB a b) b a)) (wrI IntKind.u64 (selI (ltB b a) b a)))) = AOut.ret (AV.int IntKind.u64 (apartF
    a b))) := by kernel_rfl
theorem apart_ok : SpecOK Try.prog 17 (fspecS (pureN [] apartS)) := pureN_ok (mkCall fsA_ok specsOK_nil fnsOK) (.any) (fun vs w => Try.call17 vs w) fun args ps v h hp => by
  unfold apartS at h
  split at h
  · cases h
    rename_i a b
    rw [apart_eq]
    simp only [allP_cons, allP_nil, and_true] at hp
    rw [apart_val hp.1 hp.2]
  · cases h
noncomputable def fs_apart : FS := (17, pureN [] apartS) :: fsA
theorem fsOK_apart : FSOK Try.prog fs_apart := fsOK_cons apart_ok fsA_ok
noncomputable def senseS : List AV → OV := fun args => match args with | [.agg [.int .i64 i, .int .i64 h, .int .i64 g], .agg [.int .i64 i', .int .i64 h', .int .i64 g'], .int .i64 al] => some ([rI h, rI h', rI al], .int .i64 (senseF i h i' h' al)) | _ => none
theorem sense_eq (i h g i' h' g' al : Int) : acall tab fs_apart [] fns 100 20 8 [.agg [.int .i64 i, .int .i64 h, .int .i64 g], .agg [.int .i64 i', .int .i64 h', .int .i64 g'], .int .i64 al] [] (fun o mm _ _ => resN (.any) mm o = .ret (.int .i64 (senseF i h i' h' al))) =
  (need (impB (notB (ltB al 1)) (rI h)) (need (impB (notB (ltB al 1)) (rI h')) (ifB (selB (ltB al 1) true (leB (wrI IntKind.u64 al) (apartF h h'))) (AOut.ret (AV.int
    IntKind.i64 0) = AOut.ret (AV.int IntKind.i64 (senseF i h i' h' al))) (ifB (ltB h' h) (AOut.ret (AV.int IntKind.i64 1) = AOut.ret (AV.int IntKind.i64 (senseF i h
    i' h' al))) (ifB (ltB h h') (AOut.ret (AV.int IntKind.i64 2) = AOut.ret (AV.int IntKind.i64 (senseF i h i' h' al))) (ifB (ltB i' i) (AOut.ret (AV.int IntKind.i64
    1) = AOut.ret (AV.int IntKind.i64 (senseF i h i' h' al))) (ifB (ltB i i') (AOut.ret (AV.int IntKind.i64 2) = AOut.ret (AV.int IntKind.i64 (senseF i h i' h' al)))
    (AOut.ret (AV.int IntKind.i64 0) = AOut.ret (AV.int IntKind.i64 (senseF i h i' h' al)))))))))) := by kernel_rfl
theorem sense_ok : SpecOK Try.prog 8 (fspecS (pureN [] senseS)) := pureN_ok (mkCall fsOK_apart specsOK_nil fnsOK) (.any) (fun vs w => Try.call8 vs w) fun args ps v h hp => by
  unfold senseS at h
  split at h
  · cases h
    rename_i i h g i' h' g' al
    rw [sense_eq]
    simp only [allP_cons, allP_nil, and_true] at hp
    obtain ⟨h1, h2, h3⟩ := hp
    simp only [need_def, impB_def, h1, h2, implies_true, true_and]
    unfold rI at h3
    simp only [need_def, appL_def, ifB_def, impB_def, selB_f, selB_t, selI_def, selX_def, notB_def, andB_def, orB_def, beqB_def, ltB_def, leB_def, eqB_def, seqB_def, eqI_def, eqL_def, eqS_def, eqD_def, eqT_def, imp_def, inI_def, nzI_def, geZ_def, ret_bool, ret_int, Bool.and_eq_true, Bool.or_eq_true, Bool.not_eq_true', Bool.not_eq_false', decide_eq_true_eq, decide_eq_false_iff_not, Bool.and_eq_false_iff, Bool.or_eq_false_iff, Int.not_lt, Int.not_le, true_and, and_true, implies_true, Bool.false_eq_true, Bool.true_eq_false, false_implies, forall_const, reduceCtorEq, if_true, if_false, true_implies, senseF, wrI, wrapU64]
    refine ⟨fun h => ?_, fun h => ⟨fun h4 => ?_, fun h4 => ⟨fun h5 => ?_, fun h5 => ⟨fun h6 => ?_, fun h6 => ⟨fun h7 => ?_, fun h7 => ?_⟩⟩⟩⟩⟩ <;> (repeat' split) <;> omega
  · cases h
noncomputable def fs_sense : FS := (8, pureN [] senseS) :: fs_apart
theorem fsOK_sense : FSOK Try.prog fs_sense := fsOK_cons sense_ok fsOK_apart
theorem sgn_val {x : Int} (h : rI x) : shrW .i64 x 63 = x / 9223372036854775808 := by
  unfold shrW
  rw [show (2 : Int) ^ (min (63 : Int).toNat (IntKind.bits .i64)) = 9223372036854775808 by decide, Int.fdiv_eq_ediv_of_nonneg _ (by omega)]
noncomputable def ofS : List AV → List Blk → AK → Prop := fun args m K => match args, m with | [.int .i64 x], [] => need (rI x) (∀ r2 r1 r0 : Int, wok r2 r1 r0 (x) → K (.ret (.agg [.int .u64 r2, .int .u64 r1, .int .u64 r0])) [] [] []) | _, _ => False
theorem of_eq (K : AK) (x : Int) : acall tab fs_sense [] fns 100 20 27 [.int .i64 x] [] K =
  (need (geZ 63) (K (AOut.ret (AV.agg (AV.int IntKind.u64 (wrI IntKind.u64 (shrW IntKind.i64 x 63)) :: AV.int IntKind.u64 (wrI IntKind.u64 (shrW IntKind.i64 x 63))
    :: AV.int IntKind.u64 (wrI IntKind.u64 x) :: @List.nil AV))) (@List.nil Blk) (@List.nil Nat) (@List.nil Nat))) := by kernel_rfl
theorem of_ok : SpecOK Try.prog 27 ofS := specOK_of (mkCall fsOK_sense specsOK_nil fnsOK) (fun vs w => Try.call27 vs w) fun args m K h => by
  unfold ofS at h
  split at h
  · rename_i x
    rw [of_eq]
    obtain ⟨h1, h⟩ := h
    have hp := h1
    rw [sgn_val hp]
    unfold rI at hp
    refine ⟨by unfold geZ; omega, h _ _ _ ?_⟩
    simp only [wrI, wrapU64]
    unfold wok rU wv
    omega
  · exact h.elim
noncomputable def specs_of : Specs := (27, frameS ofS) :: []
theorem specsOK_of : SpecsOK Try.prog specs_of := specsOK_cons (frame_ok of_ok) specsOK_nil
theorem car_c01 {x y c : Int} (hx : rU x) (hy : rU y) (hc : c01 c) : c01 (car3 x y c) := by
  unfold rU c01 car3 at *; omega
noncomputable def plusS : List AV → List Blk → AK → Prop := fun args m K => match args, m with | [.agg [.int .u64 a, .int .u64 b, .int .u64 c], .agg [.int .u64 x, .int .u64 y, .int .u64 z]], [] => need (rU a) (need (rU b) (need (rU c) (need (rU x) (need (rU y) (need (rU z) (∀ r2 r1 r0 : Int, wok r2 r1 r0 (wv a b c + wv x y z) → K (.ret (.agg [.int .u64 r2, .int .u64 r1, .int .u64 r0])) [] [] [])))))) | _, _ => False
theorem plus_eq (K : AK) (a b c x y z : Int) : acall tab fs_sense specs_of fns 100 20 28 [.agg [.int .u64 a, .int .u64 b, .int .u64 c], .agg [.int .u64 x, .int .u64 y, .int .u64 z]] [] K =
  (need (inI 2 3) (need (inI 2 3) (eqI 2 2 (eqI 2 2 (need (inI 2 3) (eqI c c (eqI 2 2 (need (inI 2 3) (eqI z z (eqI 0 0 (need (c01 0) (need (inI 2 3) (eqI 2 2 (eqI
    2 2 (need (inI 2 3) (eqI 2 2 (need (inI 2 3) (eqI (sum3 c z 0) (sum3 c z 0) (eqI (car3 c z 0) (car3 c z 0) (eqI (sum3 c z 0) (sum3 c z 0) (eqI (car3 c z 0) (car3
    c z 0) (need (inI 2 3) (eqI (car3 c z 0) (car3 c z 0) (need (inI 1 3) (need (inI 1 3) (eqI 1 1 (eqI 1 1 (need (inI 1 3) (eqI b b (eqI 1 1 (need (inI 1 3) (eqI y
    y (eqI (car3 c z 0) (car3 c z 0) (need (c01 (car3 c z 0)) (need (inI 1 3) (eqI 1 1 (eqI 1 1 (need (inI 1 3) (eqI 1 1 (need (inI 1 3) (eqI (sum3 b y (car3 c z 0))
    (sum3 b y (car3 c z 0)) (eqI (car3 b y (car3 c z 0)) (car3 b y (car3 c z 0)) (eqI (sum3 b y (car3 c z 0)) (sum3 b y (car3 c z 0)) (eqI (car3 b y (car3 c z 0)) (car3
    b y (car3 c z 0)) (need (inI 1 3) (eqI (car3 b y (car3 c z 0)) (car3 b y (car3 c z 0)) (need (inI 0 3) (need (inI 0 3) (eqI 0 0 (eqI 0 0 (need (inI 0 3) (eqI a a
    (eqI 0 0 (need (inI 0 3) (eqI x x (eqI (car3 b y (car3 c z 0)) (car3 b y (car3 c z 0)) (need (c01 (car3 b y (car3 c z 0))) (need (inI 0 3) (eqI 0 0 (eqI 0 0 (need
    (inI 0 3) (eqI 0 0 (need (inI 0 3) (eqI (sum3 a x (car3 b y (car3 c z 0))) (sum3 a x (car3 b y (car3 c z 0))) (eqI (car3 a x (car3 b y (car3 c z 0))) (car3 a x (car3
    b y (car3 c z 0))) (eqI (sum3 a x (car3 b y (car3 c z 0))) (sum3 a x (car3 b y (car3 c z 0))) (eqI (car3 a x (car3 b y (car3 c z 0))) (car3 a x (car3 b y (car3 c
    z 0))) (need (inI 0 3) (eqI (car3 a x (car3 b y (car3 c z 0))) (car3 a x (car3 b y (car3 c z 0))) (K (AOut.ret (AV.agg (AV.int IntKind.u64 (sum3 a x (car3 b y (car3
    c z 0))) :: AV.int IntKind.u64 (sum3 b y (car3 c z 0)) :: AV.int IntKind.u64 (sum3 c z 0) :: @List.nil AV))) (@List.nil Blk) (@List.nil Nat) (@List.nil Nat))))))))))))))))))))))))))))))))))))))))))))))))))))))))))))))))))))))) := by kernel_rfl
theorem plus_ok : SpecOK Try.prog 28 plusS := specOK_of (mkCall fsOK_sense specsOK_of fnsOK) (fun vs w => Try.call28 vs w) fun args m K h => by
  unfold plusS at h
  split at h
  · rename_i a b c x y z
    rw [plus_eq]
    obtain ⟨h1, h2, h3, h4, h5, h6, h⟩ := h
    have c0 : c01 0 := .inl rfl
    have c1 := car_c01 h3 h6 c0
    have c2 := car_c01 h2 h5 c1
    simp only [need_def, eqI_def, c0, c1, c2, inI_def, true_and, and_true]
    have := h (sum3 a x (car3 b y (car3 c z 0))) (sum3 b y (car3 c z 0)) (sum3 c z 0) (by unfold wok sum3 car3 wv rU at *; omega)
    simp [this]
  · exact h.elim
noncomputable def specs_plus : Specs := (28, frameS plusS) :: specs_of
theorem specsOK_plus : SpecsOK Try.prog specs_plus := specsOK_cons (frame_ok plus_ok) specsOK_of
theorem shr_val {k : IntKind} {a : Int} (n : Int) (p : Int) (h : (2 : Int) ^ (min n.toNat k.bits) = p) (hp : 0 ≤ p) : shrW k a n = a / p := by
  unfold shrW
  rw [h, Int.fdiv_eq_ediv_of_nonneg _ hp]
noncomputable def belowS : List AV → OV := fun args => match args with | [.agg [.int .u64 a, .int .u64 b, .int .u64 c]] => some ([rU a], .bool (topB a)) | _ => none
theorem below_eq (a b c : Int) : acall tab fs_sense specs_plus fns 100 20 31 [.agg [.int .u64 a, .int .u64 b, .int .u64 c]] [] (fun o mm _ _ => resN (.any) mm o = .ret (.bool (topB a))) =
  (need (inI 0 3) (need (geZ 63) (AOut.ret (AV.bool (eqB (shrW IntKind.u64 a 63) 1)) = AOut.ret (AV.bool (topB a))))) := by kernel_rfl
theorem below_ok : SpecOK Try.prog 31 (fspecS (pureN [] belowS)) := pureN_ok (mkCall fsOK_sense specsOK_plus fnsOK) (.any) (fun vs w => Try.call31 vs w) fun args ps v h hp => by
  unfold belowS at h
  split at h
  · cases h
    rename_i a b c
    rw [below_eq]
    simp only [allP_cons, allP_nil, and_true] at hp
    unfold rU at hp
    refine ⟨⟨by omega, by omega⟩, by unfold geZ; omega, ?_⟩
    rw [shr_val 63 9223372036854775808 (by decide) (by omega)]
    simp only [eqB_def, topB, AOut.ret.injEq, AV.bool.injEq, decide_eq_decide]
    omega
  · cases h
noncomputable def fs_below : FS := (31, pureN [] belowS) :: fs_sense
theorem fsOK_below : FSOK Try.prog fs_below := fsOK_cons below_ok fsOK_sense
theorem not_val {a : Int} (h : rU a) : bxorW .u64 a 18446744073709551615 = notU a := by
  unfold rU at h
  have e2 : (BitVec.ofInt 64 a ^^^ BitVec.ofInt 64 18446744073709551615) = ~~~ (BitVec.ofInt 64 a) := by
    rw [show BitVec.ofInt 64 18446744073709551615 = BitVec.allOnes 64 by decide, BitVec.xor_allOnes]
  have e3 : (BitVec.ofInt 64 a).toNat = a.toNat := by
    rw [BitVec.toNat_ofInt]
    have : (2 : Nat) ^ 64 = 18446744073709551616 := by decide
    omega
  have e4 : bxorW .u64 a 18446744073709551615 = IntKind.wrap .u64 ((~~~ (BitVec.ofInt 64 a)).toNat : Int) := by
    rw [← e2]; rfl
  rw [e4, BitVec.toNat_not, e3, wrapU64]
  unfold notU
  have : (2 : Nat) ^ 64 = 18446744073709551616 := by decide
  omega
theorem not_rU {a : Int} (h : rU a) : rU (notU a) := by unfold rU notU at *; omega
noncomputable def negS : List AV → List Blk → AK → Prop := fun args m K => match args, m with | [.agg [.int .u64 a, .int .u64 b, .int .u64 c]], [] => need (rU a) (need (rU b) (need (rU c) (∀ r2 r1 r0 : Int, wok r2 r1 r0 (-wv a b c) → K (.ret (.agg [.int .u64 r2, .int .u64 r1, .int .u64 r0])) [] [] []))) | _, _ => False
theorem neg_eq (K : AK) (a b c : Int) : acall tab fs_below specs_plus fns 100 20 29 [.agg [.int .u64 a, .int .u64 b, .int .u64 c]] [] K =
  (need (inI 0 3) (need (inI 1 3) (need (inI 2 3) (need (rU (bxorW IntKind.u64 a 18446744073709551615)) (need (rU (bxorW IntKind.u64 b 18446744073709551615)) (need
    (rU (bxorW IntKind.u64 c 18446744073709551615)) (need (rU 0) (need (rU 0) (need (rU 1) (∀ (r2 r1 r0 : Int), wok r2 r1 r0 (wv (bxorW IntKind.u64 a 18446744073709551615)
    (bxorW IntKind.u64 b 18446744073709551615) (bxorW IntKind.u64 c 18446744073709551615) + wv 0 0 1) → K (AOut.ret (AV.agg (AV.int IntKind.u64 r2 :: AV.int IntKind.u64
    r1 :: AV.int IntKind.u64 r0 :: @List.nil AV))) (@List.nil Blk) (@List.nil Nat) (@List.nil Nat))))))))))) := by kernel_rfl
theorem neg_ok : SpecOK Try.prog 29 negS := specOK_of (mkCall fsOK_below specsOK_plus fnsOK) (fun vs w => Try.call29 vs w) fun args m K h => by
  unfold negS at h
  split at h
  · rename_i a b c
    rw [neg_eq]
    obtain ⟨h1, h2, h3, h⟩ := h
    have r0 : rU 0 := by unfold rU; omega
    have r1 : rU 1 := by unfold rU; omega
    simp only [not_val h1, not_val h2, not_val h3, need_def, not_rU h1, not_rU h2, not_rU h3, r0, r1, inI_def, true_and, and_true]
    refine ⟨by omega, by omega, by omega, fun r2 r1 r0 hw => h _ _ _ ?_⟩
    unfold wok wv notU rU at *
    omega
  · exact h.elim
noncomputable def specs_neg : Specs := (29, frameS negS) :: specs_plus
theorem specsOK_neg : SpecsOK Try.prog specs_neg := specsOK_cons (frame_ok neg_ok) specsOK_plus
noncomputable def sizeS : List AV → List Blk → AK → Prop := fun args m K => match args, m with | [.agg [.int .u64 a, .int .u64 b, .int .u64 c]], [] => need (rU a) (need (rU b) (need (rU c) (∀ r2 r1 r0 : Int, wok r2 r1 r0 (absW a b c) → K (.ret (.agg [.int .u64 r2, .int .u64 r1, .int .u64 r0])) [] [] []))) | _, _ => False
theorem size_eq (K : AK) (a b c : Int) : acall tab fs_below specs_neg fns 100 20 30 [.agg [.int .u64 a, .int .u64 b, .int .u64 c]] [] K =
  (need (rU a) (ifB (topB a) (need (rU a) (need (rU b) (need (rU c) (∀ (r2 r1 r0 : Int), wok r2 r1 r0 (-wv a b c) → K (AOut.ret (AV.agg (AV.int IntKind.u64 r2 :: AV.int
    IntKind.u64 r1 :: AV.int IntKind.u64 r0 :: @List.nil AV))) (@List.nil Blk) (@List.nil Nat) (@List.nil Nat))))) (K (AOut.ret (AV.agg (AV.int IntKind.u64 a :: AV.int
    IntKind.u64 b :: AV.int IntKind.u64 c :: @List.nil AV))) (@List.nil Blk) (@List.nil Nat) (@List.nil Nat)))) := by kernel_rfl
theorem size_ok : SpecOK Try.prog 30 sizeS := specOK_of (mkCall fsOK_below specsOK_neg fnsOK) (fun vs w => Try.call30 vs w) fun args m K h => by
  unfold sizeS at h
  split at h
  · rename_i a b c
    rw [size_eq]
    obtain ⟨h1, h2, h3, h⟩ := h
    simp only [need_def, ifB_def, h1, h2, h3, true_and, topB, decide_eq_true_eq, decide_eq_false_iff_not]
    refine ⟨fun ht => fun r2 r1 r0 hw => h _ _ _ ?_, fun ht => h _ _ _ ?_⟩
    · rw [absW, if_pos ht]; exact hw
    · rw [absW, if_neg ht]; unfold wok wv rU at *; omega
  · exact h.elim
noncomputable def specs_size : Specs := (30, frameS sizeS) :: specs_neg
theorem specsOK_size : SpecsOK Try.prog specs_size := specsOK_cons (frame_ok size_ok) specsOK_neg
theorem band_val {a : Int} (h : rU a) : bandW .u64 a 4294967295 = a % 4294967296 := by
  unfold rU at h
  have e3 : (BitVec.ofInt 64 a).toNat = a.toNat := by
    rw [BitVec.toNat_ofInt]
    have : (2 : Nat) ^ 64 = 18446744073709551616 := by decide
    omega
  have e4 : (BitVec.ofInt 64 (4294967295 : Int)).toNat = 2 ^ 32 - 1 := by decide
  have e5 : bandW .u64 a 4294967295 = IntKind.wrap .u64 ((BitVec.ofInt 64 a &&& BitVec.ofInt 64 4294967295).toNat : Int) := rfl
  rw [e5, BitVec.toNat_and, e3, e4, Nat.and_two_pow_sub_one_eq_mod, wrapU64]
  have : (2 : Nat) ^ 32 = 4294967296 := by decide
  omega
theorem mul_bound {a b m : Int} (ha : 0 ≤ a ∧ a ≤ m) (hb : 0 ≤ b ∧ b ≤ m) : 0 ≤ a * b ∧ a * b ≤ m * m :=
  ⟨Int.mul_nonneg ha.1 hb.1, Int.mul_le_mul ha.2 hb.2 hb.1 (by omega)⟩
theorem mul_parts {x y : Int} (hx : rU x) (hy : rU y) : ∃ p11 p10 p01 p00 : Int, x / 4294967296 * (y / 4294967296) = p11 ∧ x / 4294967296 * (y % 4294967296) = p10 ∧ x % 4294967296 * (y / 4294967296) = p01 ∧ x % 4294967296 * (y % 4294967296) = p00 ∧
    x * y = 18446744073709551616 * p11 + 4294967296 * p10 + 4294967296 * p01 + p00 ∧ (0 ≤ p11 ∧ p11 ≤ 18446744065119617025) ∧ (0 ≤ p10 ∧ p10 ≤ 18446744065119617025) ∧ (0 ≤ p01 ∧ p01 ≤ 18446744065119617025) ∧ (0 ≤ p00 ∧ p00 ≤ 18446744065119617025) := by
  unfold rU at hx hy
  refine ⟨_, _, _, _, rfl, rfl, rfl, rfl, ?_, ?_⟩
  · have e1 : x = 4294967296 * (x / 4294967296) + x % 4294967296 := by omega
    have e2 : y = 4294967296 * (y / 4294967296) + y % 4294967296 := by omega
    generalize x / 4294967296 = x1 at *
    generalize x % 4294967296 = x0 at *
    generalize y / 4294967296 = y1 at *
    generalize y % 4294967296 = y0 at *
    subst e1 e2
    grind
  · have b1 : 0 ≤ x / 4294967296 ∧ x / 4294967296 ≤ 4294967295 := by omega
    have b2 : 0 ≤ x % 4294967296 ∧ x % 4294967296 ≤ 4294967295 := by omega
    have b3 : 0 ≤ y / 4294967296 ∧ y / 4294967296 ≤ 4294967295 := by omega
    have b4 : 0 ≤ y % 4294967296 ∧ y % 4294967296 ≤ 4294967295 := by omega
    exact ⟨mul_bound b1 b3, mul_bound b1 b4, mul_bound b2 b3, mul_bound b2 b4⟩
theorem mul_lo (x y : Int) : mulW .u64 x y = x * y % 18446744073709551616 := by simp only [mulW, wrapU64]
theorem mul_hi {x y : Int} (hx : rU x) (hy : rU y) : addW .u64 (addW .u64 (mulW .u64 (shrW .u64 x 32) (shrW .u64 y 32)) (shrW .u64 (addW .u64 (mulW .u64 (shrW .u64 x 32) (bandW .u64 y 4294967295)) (shrW .u64 (mulW .u64 (bandW .u64 x 4294967295) (bandW .u64 y 4294967295)) 32)) 32)) (shrW .u64 (addW .u64 (bandW .u64 (addW .u64 (mulW .u64 (shrW .u64 x 32) (bandW .u64 y 4294967295)) (shrW .u64 (mulW .u64 (bandW .u64 x 4294967295) (bandW .u64 y 4294967295)) 32)) 4294967295) (mulW .u64 (bandW .u64 x 4294967295) (shrW .u64 y 32))) 32) = x * y / 18446744073709551616 := by
  have sh : ∀ a, shrW .u64 a 32 = a / 4294967296 := fun a => shr_val 32 4294967296 (by decide) (by omega)
  obtain ⟨p11, p10, p01, p00, e1, e2, e3, e4, e5, h1, h2, h3, h4⟩ := mul_parts hx hy
  simp only [sh, band_val hx, band_val hy, mulW, addW, e1, e2, e3, e4, wrapU64]
  have w1 : p11 % 18446744073709551616 = p11 := by omega
  have w2 : p10 % 18446744073709551616 = p10 := by omega
  have w3 : p01 % 18446744073709551616 = p01 := by omega
  have w4 : p00 % 18446744073709551616 = p00 := by omega
  have w5 : (p10 + p00 / 4294967296) % 18446744073709551616 = p10 + p00 / 4294967296 := by omega
  rw [w1, w2, w3, w4, w5, band_val (by unfold rU; omega), e5]
  omega
noncomputable def mulS : List AV → OV := fun args => match args with | [.int .u64 x, .int .u64 y] => some ([rU x, rU y], .tup [.int .u64 (hiM x y), .int .u64 (loM x y)]) | _ => none
theorem mul_eq (x y : Int) : acall tab fs_below specs_size fns 100 20 23 [.int .u64 x, .int .u64 y] [] (fun o mm _ _ => resN (.any) mm o = .ret (.tup [.int .u64 (hiM x y), .int .u64 (loM x y)])) =
  (need (geZ 32) (need (geZ 32) (need (geZ 32) (need (geZ 32) (need (geZ 32) (AOut.ret (AV.tup (AV.int IntKind.u64 (addW IntKind.u64 (addW IntKind.u64 (mulW IntKind.u64
    (shrW IntKind.u64 x 32) (shrW IntKind.u64 y 32)) (shrW IntKind.u64 (addW IntKind.u64 (mulW IntKind.u64 (shrW IntKind.u64 x 32) (bandW IntKind.u64 y 4294967295))
    (shrW IntKind.u64 (mulW IntKind.u64 (bandW IntKind.u64 x 4294967295) (bandW IntKind.u64 y 4294967295)) 32)) 32)) (shrW IntKind.u64 (addW IntKind.u64 (bandW IntKind.u64
    (addW IntKind.u64 (mulW IntKind.u64 (shrW IntKind.u64 x 32) (bandW IntKind.u64 y 4294967295)) (shrW IntKind.u64 (mulW IntKind.u64 (bandW IntKind.u64 x 4294967295)
    (bandW IntKind.u64 y 4294967295)) 32)) 4294967295) (mulW IntKind.u64 (bandW IntKind.u64 x 4294967295) (shrW IntKind.u64 y 32))) 32)) :: AV.int IntKind.u64 (mulW
    IntKind.u64 x y) :: @List.nil AV)) = AOut.ret (AV.tup (AV.int IntKind.u64 (hiM x y) :: AV.int IntKind.u64 (loM x y) :: @List.nil AV)))))))) := by kernel_rfl
theorem mul_ok : SpecOK Try.prog 23 (fspecS (pureN [] mulS)) := pureN_ok (mkCall fsOK_below specsOK_size fnsOK) (.any) (fun vs w => Try.call23 vs w) fun args ps v h hp => by
  unfold mulS at h
  split at h
  · cases h
    rename_i x y
    rw [mul_eq]
    simp only [allP_cons, allP_nil, and_true] at hp
    rw [mul_hi hp.1 hp.2, mul_lo]
    simp only [need_def, geZ_def, hiM, loM]
    decide
  · cases h
noncomputable def fs_mul : FS := (23, pureN [] mulS) :: fs_below
theorem fsOK_mul : FSOK Try.prog fs_mul := fsOK_cons mul_ok fsOK_below
theorem wok1 {a b c w : Int} (h : wok a b c w) : rU a := h.1
theorem wok2 {a b c w : Int} (h : wok a b c w) : rU b := h.2.1
theorem wok3 {a b c w : Int} (h : wok a b c w) : rU c := h.2.2.1
theorem emod_add (a b M : Int) : (a % M + b % M) % M = (a + b) % M := (Int.add_emod ..).symm
theorem emod_neg (a M : Int) : (-(a % M)) % M = (-a) % M := by
  have e : -(a % M) = -a + M * (a / M) := by have := Int.emod_add_mul_ediv a M; omega
  rw [e, Int.add_mul_emod_self_left]
theorem top_neg {z : Int} (h1 : -3138550867693340381917894711603833208051177722232017256448 ≤ z) (h2 : z < 3138550867693340381917894711603833208051177722232017256448) : 3138550867693340381917894711603833208051177722232017256448 ≤ z % 6277101735386680763835789423207666416102355444464034512896 ↔ z < 0 := by omega
theorem abs_mod {z : Int} (h1 : -100000000000000000000 ≤ z) (h2 : z ≤ 100000000000000000000) : (if 3138550867693340381917894711603833208051177722232017256448 ≤ z % 6277101735386680763835789423207666416102355444464034512896 then -(z % 6277101735386680763835789423207666416102355444464034512896) else z % 6277101735386680763835789423207666416102355444464034512896) % 6277101735386680763835789423207666416102355444464034512896 = (if z < 0 then -z else z) % 6277101735386680763835789423207666416102355444464034512896 := by
  have ht := top_neg (z := z) (by omega) (by omega)
  by_cases hz : z < 0
  · rw [if_pos (ht.2 hz), if_pos hz, emod_neg]
  · rw [if_neg (fun h => hz (ht.1 h)), if_neg hz, Int.emod_emod]
theorem wok_top {a b c w : Int} (h : wok a b c w) : topB a = decide (3138550867693340381917894711603833208051177722232017256448 ≤ w % 6277101735386680763835789423207666416102355444464034512896) := by
  unfold wok rU wv at h
  unfold topB
  rw [decide_eq_decide]
  omega
theorem wok_abs {a b c w : Int} (h : wok a b c w) : absW a b c = if 3138550867693340381917894711603833208051177722232017256448 ≤ w % 6277101735386680763835789423207666416102355444464034512896 then -(w % 6277101735386680763835789423207666416102355444464034512896) else w % 6277101735386680763835789423207666416102355444464034512896 := by
  unfold absW
  rw [h.2.2.2]
  unfold wok rU wv at h
  split <;> split <;> omega
theorem room_fin {h m ls s h' g' u2 u1 u0 t2 t1 t0 r2 r1 r0 q2 q1 q0 p2 p1 p0 g2 g1 g0 f2 f1 f0 e2 e1 e0 d2 d1 d0 c2 c1 c0 b2 b1 b0 a2 a1 a0 : Int}
    (hp : rI h ∧ rI m ∧ rI ls ∧ rI s ∧ rI h' ∧ rI g') (hu : wok u2 u1 u0 (wv q2 q1 q0 + wv t2 t1 t0)) (ht : wok t2 t1 t0 (-wv r2 r1 r0)) (hr : wok r2 r1 r0 ls) (hq : wok q2 q1 q0 (wv g2 g1 g0 + wv p2 p1 p0))
    (hP : wok p2 p1 p0 (-wv 0 (hiM (max s 0) (max g' 0 + 1)) (loM (max s 0) (max g' 0 + 1)))) (hg : wok g2 g1 g0 (absW f2 f1 f0)) (hf : wok f2 f1 f0 (wv c2 c1 c0 + wv e2 e1 e0)) (he : wok e2 e1 e0 (-wv d2 d1 d0)) (hd : wok d2 d1 d0 h')
    (hc : wok c2 c1 c0 (wv a2 a1 a0 + wv b2 b1 b0)) (hb : wok b2 b1 b0 m) (ha : wok a2 a1 a0 h) : AOut.ret (.bool (notB (topB u2))) = .ret (.bool (roomF h m ls s h' g')) := by
  obtain ⟨h1, h2, h3, h4, h5, h6⟩ := hp
  rw [wok_top hu, hq.2.2.2, ht.2.2.2, hr.2.2.2, hg.2.2.2, hP.2.2.2, wok_abs hf, hc.2.2.2, he.2.2.2, hd.2.2.2, hb.2.2.2, ha.2.2.2]
  clear hu hq ht hr hg hP hf hc he hd hb ha
  have bx := mul_bound (m := 9223372036854775808) (a := max s 0) (b := max g' 0 + 1) (by unfold rI at h4; omega) (by unfold rI at h6; omega)
  unfold roomF hiM loM wv
  generalize max s 0 * (max g' 0 + 1) = x at *
  have ex : 0 * 340282366920938463463374607431768211456 + x / 18446744073709551616 * 18446744073709551616 + x % 18446744073709551616 = x := by omega
  rw [ex, emod_neg h', emod_add h m, emod_add (h + m) (-h'), emod_neg ls]
  clear ex
  unfold rI at *
  have ea : (if h + m + -h' < 0 then -(h + m + -h') else h + m + -h') = apartF (h + m) h' := by
    unfold apartF; split <;> split <;> omega
  rw [abs_mod (by omega) (by omega), ea, emod_add _ (-x), emod_add]
  have ba : 0 ≤ apartF (h + m) h' ∧ apartF (h + m) h' < 100000000000000000000 := by unfold apartF; split <;> omega
  generalize apartF (h + m) h' = d at *
  simp only [notB_def, AOut.ret.injEq, AV.bool.injEq]
  rw [← decide_not, decide_eq_decide, top_neg (by omega) (by omega)]
  omega
noncomputable def roomS : List AV → OV := fun args => match args with | [.agg [.int .i64 i, .int .i64 h, .int .i64 g], .int .i64 m, .int .i64 ls, .int .i64 s, .agg [.int .i64 i', .int .i64 h', .int .i64 g']] => some ([rI h, rI m, rI ls, rI s, rI h', rI g'], .bool (roomF h m ls s h' g')) | _ => none
theorem room_eq (i h g m ls s i' h' g' : Int) : acall tab fs_mul specs_size fns 100 20 22 [.agg [.int .i64 i, .int .i64 h, .int .i64 g], .int .i64 m, .int .i64 ls, .int .i64 s, .agg [.int .i64 i', .int .i64 h', .int .i64 g']] [] (fun o mm _ _ => resN (.any) mm o = .ret (.bool (roomF h m ls s h' g'))) =
  (eqI h h (eqI m m (eqI h' h' (need (need (rI h) (∀ (r2 r1 r0 : Int), wok r2 r1 r0 h → eqI m m (eqI h' h' (need (need (rI m) (∀ (r2_1 r1_1 r0_1 : Int), wok r2_1 r1_1
    r0_1 m → eqI h' h' (need (need (rU r2) (need (rU r1) (need (rU r0) (need (rU r2_1) (need (rU r1_1) (need (rU r0_1) (∀ (r2_2 r1_2 r0_2 : Int), wok r2_2 r1_2 r0_2
    (wv r2 r1 r0 + wv r2_1 r1_1 r0_1) → eqI h' h' (need (need (rI h') (∀ (r2 r1 r0 : Int), wok r2 r1 r0 h' → need (need (rU r2) (need (rU r1) (need (rU r0) (∀ (r2_3
    r1_3 r0_3 : Int), wok r2_3 r1_3 r0_3 (-wv r2 r1 r0) → need (need (rU r2_2) (need (rU r1_2) (need (rU r0_2) (need (rU r2_3) (need (rU r1_3) (need (rU r0_3) (∀ (r2
    r1 r0 : Int), wok r2 r1 r0 (wv r2_2 r1_2 r0_2 + wv r2_3 r1_3 r0_3) → need (need (rU r2) (need (rU r1) (need (rU r0) (∀ (r2_4 r1_4 r0_4 : Int), wok r2_4 r1_4 r0_4
    (absW r2 r1 r0) → need (rU (wrI IntKind.u64 (selI (ltB s 0) 0 s))) (need (rU (addW IntKind.u64 (wrI IntKind.u64 (selI (ltB g' 0) 0 g')) 1)) (eqI r2_4 r2_4 (eqI r1_4
    r1_4 (eqI r0_4 r0_4 (eqI (hiM (wrI IntKind.u64 (selI (ltB s 0) 0 s)) (addW IntKind.u64 (wrI IntKind.u64 (selI (ltB g' 0) 0 g')) 1)) (hiM (wrI IntKind.u64 (selI (ltB
    s 0) 0 s)) (addW IntKind.u64 (wrI IntKind.u64 (selI (ltB g' 0) 0 g')) 1)) (eqI (loM (wrI IntKind.u64 (selI (ltB s 0) 0 s)) (addW IntKind.u64 (wrI IntKind.u64 (selI
    (ltB g' 0) 0 g')) 1)) (loM (wrI IntKind.u64 (selI (ltB s 0) 0 s)) (addW IntKind.u64 (wrI IntKind.u64 (selI (ltB g' 0) 0 g')) 1)) (eqI 0 0 (eqI (hiM (wrI IntKind.u64
    (selI (ltB s 0) 0 s)) (addW IntKind.u64 (wrI IntKind.u64 (selI (ltB g' 0) 0 g')) 1)) (hiM (wrI IntKind.u64 (selI (ltB s 0) 0 s)) (addW IntKind.u64 (wrI IntKind.u64
    (selI (ltB g' 0) 0 g')) 1)) (eqI (loM (wrI IntKind.u64 (selI (ltB s 0) 0 s)) (addW IntKind.u64 (wrI IntKind.u64 (selI (ltB g' 0) 0 g')) 1)) (loM (wrI IntKind.u64
    (selI (ltB s 0) 0 s)) (addW IntKind.u64 (wrI IntKind.u64 (selI (ltB g' 0) 0 g')) 1)) (eqI ls ls (need (rU 0) (need (rU (hiM (wrI IntKind.u64 (selI (ltB s 0) 0 s))
    (addW IntKind.u64 (wrI IntKind.u64 (selI (ltB g' 0) 0 g')) 1))) (need (rU (loM (wrI IntKind.u64 (selI (ltB s 0) 0 s)) (addW IntKind.u64 (wrI IntKind.u64 (selI (ltB
    g' 0) 0 g')) 1))) (∀ (r2 r1 r0 : Int), wok r2 r1 r0 (-wv 0 (hiM (wrI IntKind.u64 (selI (ltB s 0) 0 s)) (addW IntKind.u64 (wrI IntKind.u64 (selI (ltB g' 0) 0 g'))
    1)) (loM (wrI IntKind.u64 (selI (ltB s 0) 0 s)) (addW IntKind.u64 (wrI IntKind.u64 (selI (ltB g' 0) 0 g')) 1))) → eqI r2_4 r2_4 (eqI r1_4 r1_4 (eqI r0_4 r0_4 (eqI
    (hiM (wrI IntKind.u64 (selI (ltB s 0) 0 s)) (addW IntKind.u64 (wrI IntKind.u64 (selI (ltB g' 0) 0 g')) 1)) (hiM (wrI IntKind.u64 (selI (ltB s 0) 0 s)) (addW IntKind.u64
    (wrI IntKind.u64 (selI (ltB g' 0) 0 g')) 1)) (eqI (loM (wrI IntKind.u64 (selI (ltB s 0) 0 s)) (addW IntKind.u64 (wrI IntKind.u64 (selI (ltB g' 0) 0 g')) 1)) (loM
    (wrI IntKind.u64 (selI (ltB s 0) 0 s)) (addW IntKind.u64 (wrI IntKind.u64 (selI (ltB g' 0) 0 g')) 1)) (eqI ls ls (need (rU r2_4) (need (rU r1_4) (need (rU r0_4)
    (need (rU r2) (need (rU r1) (need (rU r0) (∀ (r2_5 r1_5 r0_5 : Int), wok r2_5 r1_5 r0_5 (wv r2_4 r1_4 r0_4 + wv r2 r1 r0) → eqI (hiM (wrI IntKind.u64 (selI (ltB
    s 0) 0 s)) (addW IntKind.u64 (wrI IntKind.u64 (selI (ltB g' 0) 0 g')) 1)) (hiM (wrI IntKind.u64 (selI (ltB s 0) 0 s)) (addW IntKind.u64 (wrI IntKind.u64 (selI (ltB
    g' 0) 0 g')) 1)) (eqI (loM (wrI IntKind.u64 (selI (ltB s 0) 0 s)) (addW IntKind.u64 (wrI IntKind.u64 (selI (ltB g' 0) 0 g')) 1)) (loM (wrI IntKind.u64 (selI (ltB
    s 0) 0 s)) (addW IntKind.u64 (wrI IntKind.u64 (selI (ltB g' 0) 0 g')) 1)) (eqI ls ls (need (rI ls) (∀ (r2 r1 r0 : Int), wok r2 r1 r0 ls → eqI (hiM (wrI IntKind.u64
    (selI (ltB s 0) 0 s)) (addW IntKind.u64 (wrI IntKind.u64 (selI (ltB g' 0) 0 g')) 1)) (hiM (wrI IntKind.u64 (selI (ltB s 0) 0 s)) (addW IntKind.u64 (wrI IntKind.u64
    (selI (ltB g' 0) 0 g')) 1)) (eqI (loM (wrI IntKind.u64 (selI (ltB s 0) 0 s)) (addW IntKind.u64 (wrI IntKind.u64 (selI (ltB g' 0) 0 g')) 1)) (loM (wrI IntKind.u64
    (selI (ltB s 0) 0 s)) (addW IntKind.u64 (wrI IntKind.u64 (selI (ltB g' 0) 0 g')) 1)) (need (rU r2) (need (rU r1) (need (rU r0) (∀ (r2_6 r1_6 r0_6 : Int), wok r2_6
    r1_6 r0_6 (-wv r2 r1 r0) → eqI (hiM (wrI IntKind.u64 (selI (ltB s 0) 0 s)) (addW IntKind.u64 (wrI IntKind.u64 (selI (ltB g' 0) 0 g')) 1)) (hiM (wrI IntKind.u64 (selI
    (ltB s 0) 0 s)) (addW IntKind.u64 (wrI IntKind.u64 (selI (ltB g' 0) 0 g')) 1)) (eqI (loM (wrI IntKind.u64 (selI (ltB s 0) 0 s)) (addW IntKind.u64 (wrI IntKind.u64
    (selI (ltB g' 0) 0 g')) 1)) (loM (wrI IntKind.u64 (selI (ltB s 0) 0 s)) (addW IntKind.u64 (wrI IntKind.u64 (selI (ltB g' 0) 0 g')) 1)) (need (rU r2_5) (need (rU
    r1_5) (need (rU r0_5) (need (rU r2_6) (need (rU r1_6) (need (rU r0_6) (∀ (r2 r1 r0 : Int), wok r2 r1 r0 (wv r2_5 r1_5 r0_5 + wv r2_6 r1_6 r0_6) → eqI (hiM (wrI IntKind.u64
    (selI (ltB s 0) 0 s)) (addW IntKind.u64 (wrI IntKind.u64 (selI (ltB g' 0) 0 g')) 1)) (hiM (wrI IntKind.u64 (selI (ltB s 0) 0 s)) (addW IntKind.u64 (wrI IntKind.u64
    (selI (ltB g' 0) 0 g')) 1)) (eqI (loM (wrI IntKind.u64 (selI (ltB s 0) 0 s)) (addW IntKind.u64 (wrI IntKind.u64 (selI (ltB g' 0) 0 g')) 1)) (loM (wrI IntKind.u64
    (selI (ltB s 0) 0 s)) (addW IntKind.u64 (wrI IntKind.u64 (selI (ltB g' 0) 0 g')) 1)) (need (rU r2) (eqI (hiM (wrI IntKind.u64 (selI (ltB s 0) 0 s)) (addW IntKind.u64
    (wrI IntKind.u64 (selI (ltB g' 0) 0 g')) 1)) (hiM (wrI IntKind.u64 (selI (ltB s 0) 0 s)) (addW IntKind.u64 (wrI IntKind.u64 (selI (ltB g' 0) 0 g')) 1)) (eqI (loM
    (wrI IntKind.u64 (selI (ltB s 0) 0 s)) (addW IntKind.u64 (wrI IntKind.u64 (selI (ltB g' 0) 0 g')) 1)) (loM (wrI IntKind.u64 (selI (ltB s 0) 0 s)) (addW IntKind.u64
    (wrI IntKind.u64 (selI (ltB g' 0) 0 g')) 1)) (eqL (notB (topB r2)) (notB (topB r2)) (AOut.ret (AV.bool (notB (topB r2))) = AOut.ret (AV.bool (roomF h m ls s h' g')))))))))))))))))))))))))))))))))))))))))))))))))))))))
    (need (rU r2) (need (rU r1) (need (rU r0) (∀ (r2_4 r1_4 r0_4 : Int), wok r2_4 r1_4 r0_4 (absW r2 r1 r0) → need (rU (wrI IntKind.u64 (selI (ltB s 0) 0 s))) (need
    (rU (addW IntKind.u64 (wrI IntKind.u64 (selI (ltB g' 0) 0 g')) 1)) (eqI r2_4 r2_4 (eqI r1_4 r1_4 (eqI r0_4 r0_4 (eqI (hiM (wrI IntKind.u64 (selI (ltB s 0) 0 s))
    (addW IntKind.u64 (wrI IntKind.u64 (selI (ltB g' 0) 0 g')) 1)) (hiM (wrI IntKind.u64 (selI (ltB s 0) 0 s)) (addW IntKind.u64 (wrI IntKind.u64 (selI (ltB g' 0) 0
    g')) 1)) (eqI (loM (wrI IntKind.u64 (selI (ltB s 0) 0 s)) (addW IntKind.u64 (wrI IntKind.u64 (selI (ltB g' 0) 0 g')) 1)) (loM (wrI IntKind.u64 (selI (ltB s 0) 0
    s)) (addW IntKind.u64 (wrI IntKind.u64 (selI (ltB g' 0) 0 g')) 1)) (eqI 0 0 (eqI (hiM (wrI IntKind.u64 (selI (ltB s 0) 0 s)) (addW IntKind.u64 (wrI IntKind.u64 (selI
    (ltB g' 0) 0 g')) 1)) (hiM (wrI IntKind.u64 (selI (ltB s 0) 0 s)) (addW IntKind.u64 (wrI IntKind.u64 (selI (ltB g' 0) 0 g')) 1)) (eqI (loM (wrI IntKind.u64 (selI
    (ltB s 0) 0 s)) (addW IntKind.u64 (wrI IntKind.u64 (selI (ltB g' 0) 0 g')) 1)) (loM (wrI IntKind.u64 (selI (ltB s 0) 0 s)) (addW IntKind.u64 (wrI IntKind.u64 (selI
    (ltB g' 0) 0 g')) 1)) (eqI ls ls (need (rU 0) (need (rU (hiM (wrI IntKind.u64 (selI (ltB s 0) 0 s)) (addW IntKind.u64 (wrI IntKind.u64 (selI (ltB g' 0) 0 g')) 1)))
    (need (rU (loM (wrI IntKind.u64 (selI (ltB s 0) 0 s)) (addW IntKind.u64 (wrI IntKind.u64 (selI (ltB g' 0) 0 g')) 1))) (∀ (r2 r1 r0 : Int), wok r2 r1 r0 (-wv 0 (hiM
    (wrI IntKind.u64 (selI (ltB s 0) 0 s)) (addW IntKind.u64 (wrI IntKind.u64 (selI (ltB g' 0) 0 g')) 1)) (loM (wrI IntKind.u64 (selI (ltB s 0) 0 s)) (addW IntKind.u64
    (wrI IntKind.u64 (selI (ltB g' 0) 0 g')) 1))) → eqI r2_4 r2_4 (eqI r1_4 r1_4 (eqI r0_4 r0_4 (eqI (hiM (wrI IntKind.u64 (selI (ltB s 0) 0 s)) (addW IntKind.u64 (wrI
    IntKind.u64 (selI (ltB g' 0) 0 g')) 1)) (hiM (wrI IntKind.u64 (selI (ltB s 0) 0 s)) (addW IntKind.u64 (wrI IntKind.u64 (selI (ltB g' 0) 0 g')) 1)) (eqI (loM (wrI
    IntKind.u64 (selI (ltB s 0) 0 s)) (addW IntKind.u64 (wrI IntKind.u64 (selI (ltB g' 0) 0 g')) 1)) (loM (wrI IntKind.u64 (selI (ltB s 0) 0 s)) (addW IntKind.u64 (wrI
    IntKind.u64 (selI (ltB g' 0) 0 g')) 1)) (eqI ls ls (need (rU r2_4) (need (rU r1_4) (need (rU r0_4) (need (rU r2) (need (rU r1) (need (rU r0) (∀ (r2_5 r1_5 r0_5 :
    Int), wok r2_5 r1_5 r0_5 (wv r2_4 r1_4 r0_4 + wv r2 r1 r0) → eqI (hiM (wrI IntKind.u64 (selI (ltB s 0) 0 s)) (addW IntKind.u64 (wrI IntKind.u64 (selI (ltB g' 0)
    0 g')) 1)) (hiM (wrI IntKind.u64 (selI (ltB s 0) 0 s)) (addW IntKind.u64 (wrI IntKind.u64 (selI (ltB g' 0) 0 g')) 1)) (eqI (loM (wrI IntKind.u64 (selI (ltB s 0)
    0 s)) (addW IntKind.u64 (wrI IntKind.u64 (selI (ltB g' 0) 0 g')) 1)) (loM (wrI IntKind.u64 (selI (ltB s 0) 0 s)) (addW IntKind.u64 (wrI IntKind.u64 (selI (ltB g'
    0) 0 g')) 1)) (eqI ls ls (need (rI ls) (∀ (r2 r1 r0 : Int), wok r2 r1 r0 ls → eqI (hiM (wrI IntKind.u64 (selI (ltB s 0) 0 s)) (addW IntKind.u64 (wrI IntKind.u64
    (selI (ltB g' 0) 0 g')) 1)) (hiM (wrI IntKind.u64 (selI (ltB s 0) 0 s)) (addW IntKind.u64 (wrI IntKind.u64 (selI (ltB g' 0) 0 g')) 1)) (eqI (loM (wrI IntKind.u64
    (selI (ltB s 0) 0 s)) (addW IntKind.u64 (wrI IntKind.u64 (selI (ltB g' 0) 0 g')) 1)) (loM (wrI IntKind.u64 (selI (ltB s 0) 0 s)) (addW IntKind.u64 (wrI IntKind.u64
    (selI (ltB g' 0) 0 g')) 1)) (need (rU r2) (need (rU r1) (need (rU r0) (∀ (r2_6 r1_6 r0_6 : Int), wok r2_6 r1_6 r0_6 (-wv r2 r1 r0) → eqI (hiM (wrI IntKind.u64 (selI
    (ltB s 0) 0 s)) (addW IntKind.u64 (wrI IntKind.u64 (selI (ltB g' 0) 0 g')) 1)) (hiM (wrI IntKind.u64 (selI (ltB s 0) 0 s)) (addW IntKind.u64 (wrI IntKind.u64 (selI
    (ltB g' 0) 0 g')) 1)) (eqI (loM (wrI IntKind.u64 (selI (ltB s 0) 0 s)) (addW IntKind.u64 (wrI IntKind.u64 (selI (ltB g' 0) 0 g')) 1)) (loM (wrI IntKind.u64 (selI
    (ltB s 0) 0 s)) (addW IntKind.u64 (wrI IntKind.u64 (selI (ltB g' 0) 0 g')) 1)) (need (rU r2_5) (need (rU r1_5) (need (rU r0_5) (need (rU r2_6) (need (rU r1_6) (need
    (rU r0_6) (∀ (r2 r1 r0 : Int), wok r2 r1 r0 (wv r2_5 r1_5 r0_5 + wv r2_6 r1_6 r0_6) → eqI (hiM (wrI IntKind.u64 (selI (ltB s 0) 0 s)) (addW IntKind.u64 (wrI IntKind.u64
    (selI (ltB g' 0) 0 g')) 1)) (hiM (wrI IntKind.u64 (selI (ltB s 0) 0 s)) (addW IntKind.u64 (wrI IntKind.u64 (selI (ltB g' 0) 0 g')) 1)) (eqI (loM (wrI IntKind.u64
    (selI (ltB s 0) 0 s)) (addW IntKind.u64 (wrI IntKind.u64 (selI (ltB g' 0) 0 g')) 1)) (loM (wrI IntKind.u64 (selI (ltB s 0) 0 s)) (addW IntKind.u64 (wrI IntKind.u64
    (selI (ltB g' 0) 0 g')) 1)) (need (rU r2) (eqI (hiM (wrI IntKind.u64 (selI (ltB s 0) 0 s)) (addW IntKind.u64 (wrI IntKind.u64 (selI (ltB g' 0) 0 g')) 1)) (hiM (wrI
    IntKind.u64 (selI (ltB s 0) 0 s)) (addW IntKind.u64 (wrI IntKind.u64 (selI (ltB g' 0) 0 g')) 1)) (eqI (loM (wrI IntKind.u64 (selI (ltB s 0) 0 s)) (addW IntKind.u64
    (wrI IntKind.u64 (selI (ltB g' 0) 0 g')) 1)) (loM (wrI IntKind.u64 (selI (ltB s 0) 0 s)) (addW IntKind.u64 (wrI IntKind.u64 (selI (ltB g' 0) 0 g')) 1)) (eqL (notB
    (topB r2)) (notB (topB r2)) (AOut.ret (AV.bool (notB (topB r2))) = AOut.ret (AV.bool (roomF h m ls s h' g'))))))))))))))))))))))))))))))))))))))))))))))))))))))))))))))
    (need (rU r2_2) (need (rU r1_2) (need (rU r0_2) (need (rU r2_3) (need (rU r1_3) (need (rU r0_3) (∀ (r2 r1 r0 : Int), wok r2 r1 r0 (wv r2_2 r1_2 r0_2 + wv r2_3 r1_3
    r0_3) → need (rU r2) (need (rU r1) (need (rU r0) (∀ (r2_4 r1_4 r0_4 : Int), wok r2_4 r1_4 r0_4 (absW r2 r1 r0) → need (rU (wrI IntKind.u64 (selI (ltB s 0) 0 s)))
    (need (rU (addW IntKind.u64 (wrI IntKind.u64 (selI (ltB g' 0) 0 g')) 1)) (eqI r2_4 r2_4 (eqI r1_4 r1_4 (eqI r0_4 r0_4 (eqI (hiM (wrI IntKind.u64 (selI (ltB s 0)
    0 s)) (addW IntKind.u64 (wrI IntKind.u64 (selI (ltB g' 0) 0 g')) 1)) (hiM (wrI IntKind.u64 (selI (ltB s 0) 0 s)) (addW IntKind.u64 (wrI IntKind.u64 (selI (ltB g'
    0) 0 g')) 1)) (eqI (loM (wrI IntKind.u64 (selI (ltB s 0) 0 s)) (addW IntKind.u64 (wrI IntKind.u64 (selI (ltB g' 0) 0 g')) 1)) (loM (wrI IntKind.u64 (selI (ltB s
    0) 0 s)) (addW IntKind.u64 (wrI IntKind.u64 (selI (ltB g' 0) 0 g')) 1)) (eqI 0 0 (eqI (hiM (wrI IntKind.u64 (selI (ltB s 0) 0 s)) (addW IntKind.u64 (wrI IntKind.u64
    (selI (ltB g' 0) 0 g')) 1)) (hiM (wrI IntKind.u64 (selI (ltB s 0) 0 s)) (addW IntKind.u64 (wrI IntKind.u64 (selI (ltB g' 0) 0 g')) 1)) (eqI (loM (wrI IntKind.u64
    (selI (ltB s 0) 0 s)) (addW IntKind.u64 (wrI IntKind.u64 (selI (ltB g' 0) 0 g')) 1)) (loM (wrI IntKind.u64 (selI (ltB s 0) 0 s)) (addW IntKind.u64 (wrI IntKind.u64
    (selI (ltB g' 0) 0 g')) 1)) (eqI ls ls (need (rU 0) (need (rU (hiM (wrI IntKind.u64 (selI (ltB s 0) 0 s)) (addW IntKind.u64 (wrI IntKind.u64 (selI (ltB g' 0) 0 g'))
    1))) (need (rU (loM (wrI IntKind.u64 (selI (ltB s 0) 0 s)) (addW IntKind.u64 (wrI IntKind.u64 (selI (ltB g' 0) 0 g')) 1))) (∀ (r2 r1 r0 : Int), wok r2 r1 r0 (-wv
    0 (hiM (wrI IntKind.u64 (selI (ltB s 0) 0 s)) (addW IntKind.u64 (wrI IntKind.u64 (selI (ltB g' 0) 0 g')) 1)) (loM (wrI IntKind.u64 (selI (ltB s 0) 0 s)) (addW IntKind.u64
    (wrI IntKind.u64 (selI (ltB g' 0) 0 g')) 1))) → eqI r2_4 r2_4 (eqI r1_4 r1_4 (eqI r0_4 r0_4 (eqI (hiM (wrI IntKind.u64 (selI (ltB s 0) 0 s)) (addW IntKind.u64 (wrI
    IntKind.u64 (selI (ltB g' 0) 0 g')) 1)) (hiM (wrI IntKind.u64 (selI (ltB s 0) 0 s)) (addW IntKind.u64 (wrI IntKind.u64 (selI (ltB g' 0) 0 g')) 1)) (eqI (loM (wrI
    IntKind.u64 (selI (ltB s 0) 0 s)) (addW IntKind.u64 (wrI IntKind.u64 (selI (ltB g' 0) 0 g')) 1)) (loM (wrI IntKind.u64 (selI (ltB s 0) 0 s)) (addW IntKind.u64 (wrI
    IntKind.u64 (selI (ltB g' 0) 0 g')) 1)) (eqI ls ls (need (rU r2_4) (need (rU r1_4) (need (rU r0_4) (need (rU r2) (need (rU r1) (need (rU r0) (∀ (r2_5 r1_5 r0_5 :
    Int), wok r2_5 r1_5 r0_5 (wv r2_4 r1_4 r0_4 + wv r2 r1 r0) → eqI (hiM (wrI IntKind.u64 (selI (ltB s 0) 0 s)) (addW IntKind.u64 (wrI IntKind.u64 (selI (ltB g' 0)
    0 g')) 1)) (hiM (wrI IntKind.u64 (selI (ltB s 0) 0 s)) (addW IntKind.u64 (wrI IntKind.u64 (selI (ltB g' 0) 0 g')) 1)) (eqI (loM (wrI IntKind.u64 (selI (ltB s 0)
    0 s)) (addW IntKind.u64 (wrI IntKind.u64 (selI (ltB g' 0) 0 g')) 1)) (loM (wrI IntKind.u64 (selI (ltB s 0) 0 s)) (addW IntKind.u64 (wrI IntKind.u64 (selI (ltB g'
    0) 0 g')) 1)) (eqI ls ls (need (rI ls) (∀ (r2 r1 r0 : Int), wok r2 r1 r0 ls → eqI (hiM (wrI IntKind.u64 (selI (ltB s 0) 0 s)) (addW IntKind.u64 (wrI IntKind.u64
    (selI (ltB g' 0) 0 g')) 1)) (hiM (wrI IntKind.u64 (selI (ltB s 0) 0 s)) (addW IntKind.u64 (wrI IntKind.u64 (selI (ltB g' 0) 0 g')) 1)) (eqI (loM (wrI IntKind.u64
    (selI (ltB s 0) 0 s)) (addW IntKind.u64 (wrI IntKind.u64 (selI (ltB g' 0) 0 g')) 1)) (loM (wrI IntKind.u64 (selI (ltB s 0) 0 s)) (addW IntKind.u64 (wrI IntKind.u64
    (selI (ltB g' 0) 0 g')) 1)) (need (rU r2) (need (rU r1) (need (rU r0) (∀ (r2_6 r1_6 r0_6 : Int), wok r2_6 r1_6 r0_6 (-wv r2 r1 r0) → eqI (hiM (wrI IntKind.u64 (selI
    (ltB s 0) 0 s)) (addW IntKind.u64 (wrI IntKind.u64 (selI (ltB g' 0) 0 g')) 1)) (hiM (wrI IntKind.u64 (selI (ltB s 0) 0 s)) (addW IntKind.u64 (wrI IntKind.u64 (selI
    (ltB g' 0) 0 g')) 1)) (eqI (loM (wrI IntKind.u64 (selI (ltB s 0) 0 s)) (addW IntKind.u64 (wrI IntKind.u64 (selI (ltB g' 0) 0 g')) 1)) (loM (wrI IntKind.u64 (selI
    (ltB s 0) 0 s)) (addW IntKind.u64 (wrI IntKind.u64 (selI (ltB g' 0) 0 g')) 1)) (need (rU r2_5) (need (rU r1_5) (need (rU r0_5) (need (rU r2_6) (need (rU r1_6) (need
    (rU r0_6) (∀ (r2 r1 r0 : Int), wok r2 r1 r0 (wv r2_5 r1_5 r0_5 + wv r2_6 r1_6 r0_6) → eqI (hiM (wrI IntKind.u64 (selI (ltB s 0) 0 s)) (addW IntKind.u64 (wrI IntKind.u64
    (selI (ltB g' 0) 0 g')) 1)) (hiM (wrI IntKind.u64 (selI (ltB s 0) 0 s)) (addW IntKind.u64 (wrI IntKind.u64 (selI (ltB g' 0) 0 g')) 1)) (eqI (loM (wrI IntKind.u64
    (selI (ltB s 0) 0 s)) (addW IntKind.u64 (wrI IntKind.u64 (selI (ltB g' 0) 0 g')) 1)) (loM (wrI IntKind.u64 (selI (ltB s 0) 0 s)) (addW IntKind.u64 (wrI IntKind.u64
    (selI (ltB g' 0) 0 g')) 1)) (need (rU r2) (eqI (hiM (wrI IntKind.u64 (selI (ltB s 0) 0 s)) (addW IntKind.u64 (wrI IntKind.u64 (selI (ltB g' 0) 0 g')) 1)) (hiM (wrI
    IntKind.u64 (selI (ltB s 0) 0 s)) (addW IntKind.u64 (wrI IntKind.u64 (selI (ltB g' 0) 0 g')) 1)) (eqI (loM (wrI IntKind.u64 (selI (ltB s 0) 0 s)) (addW IntKind.u64
    (wrI IntKind.u64 (selI (ltB g' 0) 0 g')) 1)) (loM (wrI IntKind.u64 (selI (ltB s 0) 0 s)) (addW IntKind.u64 (wrI IntKind.u64 (selI (ltB g' 0) 0 g')) 1)) (eqL (notB
    (topB r2)) (notB (topB r2)) (AOut.ret (AV.bool (notB (topB r2))) = AOut.ret (AV.bool (roomF h m ls s h' g')))))))))))))))))))))))))))))))))))))))))))))))))))))))))))))))))
    (need (rU r2) (need (rU r1) (need (rU r0) (∀ (r2_3 r1_3 r0_3 : Int), wok r2_3 r1_3 r0_3 (-wv r2 r1 r0) → need (rU r2_2) (need (rU r1_2) (need (rU r0_2) (need (rU
    r2_3) (need (rU r1_3) (need (rU r0_3) (∀ (r2 r1 r0 : Int), wok r2 r1 r0 (wv r2_2 r1_2 r0_2 + wv r2_3 r1_3 r0_3) → need (rU r2) (need (rU r1) (need (rU r0) (∀ (r2_4
    r1_4 r0_4 : Int), wok r2_4 r1_4 r0_4 (absW r2 r1 r0) → need (rU (wrI IntKind.u64 (selI (ltB s 0) 0 s))) (need (rU (addW IntKind.u64 (wrI IntKind.u64 (selI (ltB g'
    0) 0 g')) 1)) (eqI r2_4 r2_4 (eqI r1_4 r1_4 (eqI r0_4 r0_4 (eqI (hiM (wrI IntKind.u64 (selI (ltB s 0) 0 s)) (addW IntKind.u64 (wrI IntKind.u64 (selI (ltB g' 0) 0
    g')) 1)) (hiM (wrI IntKind.u64 (selI (ltB s 0) 0 s)) (addW IntKind.u64 (wrI IntKind.u64 (selI (ltB g' 0) 0 g')) 1)) (eqI (loM (wrI IntKind.u64 (selI (ltB s 0) 0
    s)) (addW IntKind.u64 (wrI IntKind.u64 (selI (ltB g' 0) 0 g')) 1)) (loM (wrI IntKind.u64 (selI (ltB s 0) 0 s)) (addW IntKind.u64 (wrI IntKind.u64 (selI (ltB g' 0)
    0 g')) 1)) (eqI 0 0 (eqI (hiM (wrI IntKind.u64 (selI (ltB s 0) 0 s)) (addW IntKind.u64 (wrI IntKind.u64 (selI (ltB g' 0) 0 g')) 1)) (hiM (wrI IntKind.u64 (selI (ltB
    s 0) 0 s)) (addW IntKind.u64 (wrI IntKind.u64 (selI (ltB g' 0) 0 g')) 1)) (eqI (loM (wrI IntKind.u64 (selI (ltB s 0) 0 s)) (addW IntKind.u64 (wrI IntKind.u64 (selI
    (ltB g' 0) 0 g')) 1)) (loM (wrI IntKind.u64 (selI (ltB s 0) 0 s)) (addW IntKind.u64 (wrI IntKind.u64 (selI (ltB g' 0) 0 g')) 1)) (eqI ls ls (need (rU 0) (need (rU
    (hiM (wrI IntKind.u64 (selI (ltB s 0) 0 s)) (addW IntKind.u64 (wrI IntKind.u64 (selI (ltB g' 0) 0 g')) 1))) (need (rU (loM (wrI IntKind.u64 (selI (ltB s 0) 0 s))
    (addW IntKind.u64 (wrI IntKind.u64 (selI (ltB g' 0) 0 g')) 1))) (∀ (r2 r1 r0 : Int), wok r2 r1 r0 (-wv 0 (hiM (wrI IntKind.u64 (selI (ltB s 0) 0 s)) (addW IntKind.u64
    (wrI IntKind.u64 (selI (ltB g' 0) 0 g')) 1)) (loM (wrI IntKind.u64 (selI (ltB s 0) 0 s)) (addW IntKind.u64 (wrI IntKind.u64 (selI (ltB g' 0) 0 g')) 1))) → eqI r2_4
    r2_4 (eqI r1_4 r1_4 (eqI r0_4 r0_4 (eqI (hiM (wrI IntKind.u64 (selI (ltB s 0) 0 s)) (addW IntKind.u64 (wrI IntKind.u64 (selI (ltB g' 0) 0 g')) 1)) (hiM (wrI IntKind.u64
    (selI (ltB s 0) 0 s)) (addW IntKind.u64 (wrI IntKind.u64 (selI (ltB g' 0) 0 g')) 1)) (eqI (loM (wrI IntKind.u64 (selI (ltB s 0) 0 s)) (addW IntKind.u64 (wrI IntKind.u64
    (selI (ltB g' 0) 0 g')) 1)) (loM (wrI IntKind.u64 (selI (ltB s 0) 0 s)) (addW IntKind.u64 (wrI IntKind.u64 (selI (ltB g' 0) 0 g')) 1)) (eqI ls ls (need (rU r2_4)
    (need (rU r1_4) (need (rU r0_4) (need (rU r2) (need (rU r1) (need (rU r0) (∀ (r2_5 r1_5 r0_5 : Int), wok r2_5 r1_5 r0_5 (wv r2_4 r1_4 r0_4 + wv r2 r1 r0) → eqI (hiM
    (wrI IntKind.u64 (selI (ltB s 0) 0 s)) (addW IntKind.u64 (wrI IntKind.u64 (selI (ltB g' 0) 0 g')) 1)) (hiM (wrI IntKind.u64 (selI (ltB s 0) 0 s)) (addW IntKind.u64
    (wrI IntKind.u64 (selI (ltB g' 0) 0 g')) 1)) (eqI (loM (wrI IntKind.u64 (selI (ltB s 0) 0 s)) (addW IntKind.u64 (wrI IntKind.u64 (selI (ltB g' 0) 0 g')) 1)) (loM
    (wrI IntKind.u64 (selI (ltB s 0) 0 s)) (addW IntKind.u64 (wrI IntKind.u64 (selI (ltB g' 0) 0 g')) 1)) (eqI ls ls (need (rI ls) (∀ (r2 r1 r0 : Int), wok r2 r1 r0
    ls → eqI (hiM (wrI IntKind.u64 (selI (ltB s 0) 0 s)) (addW IntKind.u64 (wrI IntKind.u64 (selI (ltB g' 0) 0 g')) 1)) (hiM (wrI IntKind.u64 (selI (ltB s 0) 0 s)) (addW
    IntKind.u64 (wrI IntKind.u64 (selI (ltB g' 0) 0 g')) 1)) (eqI (loM (wrI IntKind.u64 (selI (ltB s 0) 0 s)) (addW IntKind.u64 (wrI IntKind.u64 (selI (ltB g' 0) 0 g'))
    1)) (loM (wrI IntKind.u64 (selI (ltB s 0) 0 s)) (addW IntKind.u64 (wrI IntKind.u64 (selI (ltB g' 0) 0 g')) 1)) (need (rU r2) (need (rU r1) (need (rU r0) (∀ (r2_6
    r1_6 r0_6 : Int), wok r2_6 r1_6 r0_6 (-wv r2 r1 r0) → eqI (hiM (wrI IntKind.u64 (selI (ltB s 0) 0 s)) (addW IntKind.u64 (wrI IntKind.u64 (selI (ltB g' 0) 0 g'))
    1)) (hiM (wrI IntKind.u64 (selI (ltB s 0) 0 s)) (addW IntKind.u64 (wrI IntKind.u64 (selI (ltB g' 0) 0 g')) 1)) (eqI (loM (wrI IntKind.u64 (selI (ltB s 0) 0 s)) (addW
    IntKind.u64 (wrI IntKind.u64 (selI (ltB g' 0) 0 g')) 1)) (loM (wrI IntKind.u64 (selI (ltB s 0) 0 s)) (addW IntKind.u64 (wrI IntKind.u64 (selI (ltB g' 0) 0 g')) 1))
    (need (rU r2_5) (need (rU r1_5) (need (rU r0_5) (need (rU r2_6) (need (rU r1_6) (need (rU r0_6) (∀ (r2 r1 r0 : Int), wok r2 r1 r0 (wv r2_5 r1_5 r0_5 + wv r2_6 r1_6
    r0_6) → eqI (hiM (wrI IntKind.u64 (selI (ltB s 0) 0 s)) (addW IntKind.u64 (wrI IntKind.u64 (selI (ltB g' 0) 0 g')) 1)) (hiM (wrI IntKind.u64 (selI (ltB s 0) 0 s))
    (addW IntKind.u64 (wrI IntKind.u64 (selI (ltB g' 0) 0 g')) 1)) (eqI (loM (wrI IntKind.u64 (selI (ltB s 0) 0 s)) (addW IntKind.u64 (wrI IntKind.u64 (selI (ltB g'
    0) 0 g')) 1)) (loM (wrI IntKind.u64 (selI (ltB s 0) 0 s)) (addW IntKind.u64 (wrI IntKind.u64 (selI (ltB g' 0) 0 g')) 1)) (need (rU r2) (eqI (hiM (wrI IntKind.u64
    (selI (ltB s 0) 0 s)) (addW IntKind.u64 (wrI IntKind.u64 (selI (ltB g' 0) 0 g')) 1)) (hiM (wrI IntKind.u64 (selI (ltB s 0) 0 s)) (addW IntKind.u64 (wrI IntKind.u64
    (selI (ltB g' 0) 0 g')) 1)) (eqI (loM (wrI IntKind.u64 (selI (ltB s 0) 0 s)) (addW IntKind.u64 (wrI IntKind.u64 (selI (ltB g' 0) 0 g')) 1)) (loM (wrI IntKind.u64
    (selI (ltB s 0) 0 s)) (addW IntKind.u64 (wrI IntKind.u64 (selI (ltB g' 0) 0 g')) 1)) (eqL (notB (topB r2)) (notB (topB r2)) (AOut.ret (AV.bool (notB (topB r2)))
    = AOut.ret (AV.bool (roomF h m ls s h' g')))))))))))))))))))))))))))))))))))))))))))))))))))))))))))))))))) (eqI h' h' (need (rI h') (∀ (r2 r1 r0 : Int), wok r2
    r1 r0 h' → need (rU r2) (need (rU r1) (need (rU r0) (∀ (r2_3 r1_3 r0_3 : Int), wok r2_3 r1_3 r0_3 (-wv r2 r1 r0) → need (rU r2_2) (need (rU r1_2) (need (rU r0_2)
    (need (rU r2_3) (need (rU r1_3) (need (rU r0_3) (∀ (r2 r1 r0 : Int), wok r2 r1 r0 (wv r2_2 r1_2 r0_2 + wv r2_3 r1_3 r0_3) → need (rU r2) (need (rU r1) (need (rU
    r0) (∀ (r2_4 r1_4 r0_4 : Int), wok r2_4 r1_4 r0_4 (absW r2 r1 r0) → need (rU (wrI IntKind.u64 (selI (ltB s 0) 0 s))) (need (rU (addW IntKind.u64 (wrI IntKind.u64
    (selI (ltB g' 0) 0 g')) 1)) (eqI r2_4 r2_4 (eqI r1_4 r1_4 (eqI r0_4 r0_4 (eqI (hiM (wrI IntKind.u64 (selI (ltB s 0) 0 s)) (addW IntKind.u64 (wrI IntKind.u64 (selI
    (ltB g' 0) 0 g')) 1)) (hiM (wrI IntKind.u64 (selI (ltB s 0) 0 s)) (addW IntKind.u64 (wrI IntKind.u64 (selI (ltB g' 0) 0 g')) 1)) (eqI (loM (wrI IntKind.u64 (selI
    (ltB s 0) 0 s)) (addW IntKind.u64 (wrI IntKind.u64 (selI (ltB g' 0) 0 g')) 1)) (loM (wrI IntKind.u64 (selI (ltB s 0) 0 s)) (addW IntKind.u64 (wrI IntKind.u64 (selI
    (ltB g' 0) 0 g')) 1)) (eqI 0 0 (eqI (hiM (wrI IntKind.u64 (selI (ltB s 0) 0 s)) (addW IntKind.u64 (wrI IntKind.u64 (selI (ltB g' 0) 0 g')) 1)) (hiM (wrI IntKind.u64
    (selI (ltB s 0) 0 s)) (addW IntKind.u64 (wrI IntKind.u64 (selI (ltB g' 0) 0 g')) 1)) (eqI (loM (wrI IntKind.u64 (selI (ltB s 0) 0 s)) (addW IntKind.u64 (wrI IntKind.u64
    (selI (ltB g' 0) 0 g')) 1)) (loM (wrI IntKind.u64 (selI (ltB s 0) 0 s)) (addW IntKind.u64 (wrI IntKind.u64 (selI (ltB g' 0) 0 g')) 1)) (eqI ls ls (need (rU 0) (need
    (rU (hiM (wrI IntKind.u64 (selI (ltB s 0) 0 s)) (addW IntKind.u64 (wrI IntKind.u64 (selI (ltB g' 0) 0 g')) 1))) (need (rU (loM (wrI IntKind.u64 (selI (ltB s 0) 0
    s)) (addW IntKind.u64 (wrI IntKind.u64 (selI (ltB g' 0) 0 g')) 1))) (∀ (r2 r1 r0 : Int), wok r2 r1 r0 (-wv 0 (hiM (wrI IntKind.u64 (selI (ltB s 0) 0 s)) (addW IntKind.u64
    (wrI IntKind.u64 (selI (ltB g' 0) 0 g')) 1)) (loM (wrI IntKind.u64 (selI (ltB s 0) 0 s)) (addW IntKind.u64 (wrI IntKind.u64 (selI (ltB g' 0) 0 g')) 1))) → eqI r2_4
    r2_4 (eqI r1_4 r1_4 (eqI r0_4 r0_4 (eqI (hiM (wrI IntKind.u64 (selI (ltB s 0) 0 s)) (addW IntKind.u64 (wrI IntKind.u64 (selI (ltB g' 0) 0 g')) 1)) (hiM (wrI IntKind.u64
    (selI (ltB s 0) 0 s)) (addW IntKind.u64 (wrI IntKind.u64 (selI (ltB g' 0) 0 g')) 1)) (eqI (loM (wrI IntKind.u64 (selI (ltB s 0) 0 s)) (addW IntKind.u64 (wrI IntKind.u64
    (selI (ltB g' 0) 0 g')) 1)) (loM (wrI IntKind.u64 (selI (ltB s 0) 0 s)) (addW IntKind.u64 (wrI IntKind.u64 (selI (ltB g' 0) 0 g')) 1)) (eqI ls ls (need (rU r2_4)
    (need (rU r1_4) (need (rU r0_4) (need (rU r2) (need (rU r1) (need (rU r0) (∀ (r2_5 r1_5 r0_5 : Int), wok r2_5 r1_5 r0_5 (wv r2_4 r1_4 r0_4 + wv r2 r1 r0) → eqI (hiM
    (wrI IntKind.u64 (selI (ltB s 0) 0 s)) (addW IntKind.u64 (wrI IntKind.u64 (selI (ltB g' 0) 0 g')) 1)) (hiM (wrI IntKind.u64 (selI (ltB s 0) 0 s)) (addW IntKind.u64
    (wrI IntKind.u64 (selI (ltB g' 0) 0 g')) 1)) (eqI (loM (wrI IntKind.u64 (selI (ltB s 0) 0 s)) (addW IntKind.u64 (wrI IntKind.u64 (selI (ltB g' 0) 0 g')) 1)) (loM
    (wrI IntKind.u64 (selI (ltB s 0) 0 s)) (addW IntKind.u64 (wrI IntKind.u64 (selI (ltB g' 0) 0 g')) 1)) (eqI ls ls (need (rI ls) (∀ (r2 r1 r0 : Int), wok r2 r1 r0
    ls → eqI (hiM (wrI IntKind.u64 (selI (ltB s 0) 0 s)) (addW IntKind.u64 (wrI IntKind.u64 (selI (ltB g' 0) 0 g')) 1)) (hiM (wrI IntKind.u64 (selI (ltB s 0) 0 s)) (addW
    IntKind.u64 (wrI IntKind.u64 (selI (ltB g' 0) 0 g')) 1)) (eqI (loM (wrI IntKind.u64 (selI (ltB s 0) 0 s)) (addW IntKind.u64 (wrI IntKind.u64 (selI (ltB g' 0) 0 g'))
    1)) (loM (wrI IntKind.u64 (selI (ltB s 0) 0 s)) (addW IntKind.u64 (wrI IntKind.u64 (selI (ltB g' 0) 0 g')) 1)) (need (rU r2) (need (rU r1) (need (rU r0) (∀ (r2_6
    r1_6 r0_6 : Int), wok r2_6 r1_6 r0_6 (-wv r2 r1 r0) → eqI (hiM (wrI IntKind.u64 (selI (ltB s 0) 0 s)) (addW IntKind.u64 (wrI IntKind.u64 (selI (ltB g' 0) 0 g'))
    1)) (hiM (wrI IntKind.u64 (selI (ltB s 0) 0 s)) (addW IntKind.u64 (wrI IntKind.u64 (selI (ltB g' 0) 0 g')) 1)) (eqI (loM (wrI IntKind.u64 (selI (ltB s 0) 0 s)) (addW
    IntKind.u64 (wrI IntKind.u64 (selI (ltB g' 0) 0 g')) 1)) (loM (wrI IntKind.u64 (selI (ltB s 0) 0 s)) (addW IntKind.u64 (wrI IntKind.u64 (selI (ltB g' 0) 0 g')) 1))
    (need (rU r2_5) (need (rU r1_5) (need (rU r0_5) (need (rU r2_6) (need (rU r1_6) (need (rU r0_6) (∀ (r2 r1 r0 : Int), wok r2 r1 r0 (wv r2_5 r1_5 r0_5 + wv r2_6 r1_6
    r0_6) → eqI (hiM (wrI IntKind.u64 (selI (ltB s 0) 0 s)) (addW IntKind.u64 (wrI IntKind.u64 (selI (ltB g' 0) 0 g')) 1)) (hiM (wrI IntKind.u64 (selI (ltB s 0) 0 s))
    (addW IntKind.u64 (wrI IntKind.u64 (selI (ltB g' 0) 0 g')) 1)) (eqI (loM (wrI IntKind.u64 (selI (ltB s 0) 0 s)) (addW IntKind.u64 (wrI IntKind.u64 (selI (ltB g'
    0) 0 g')) 1)) (loM (wrI IntKind.u64 (selI (ltB s 0) 0 s)) (addW IntKind.u64 (wrI IntKind.u64 (selI (ltB g' 0) 0 g')) 1)) (need (rU r2) (eqI (hiM (wrI IntKind.u64
    (selI (ltB s 0) 0 s)) (addW IntKind.u64 (wrI IntKind.u64 (selI (ltB g' 0) 0 g')) 1)) (hiM (wrI IntKind.u64 (selI (ltB s 0) 0 s)) (addW IntKind.u64 (wrI IntKind.u64
    (selI (ltB g' 0) 0 g')) 1)) (eqI (loM (wrI IntKind.u64 (selI (ltB s 0) 0 s)) (addW IntKind.u64 (wrI IntKind.u64 (selI (ltB g' 0) 0 g')) 1)) (loM (wrI IntKind.u64
    (selI (ltB s 0) 0 s)) (addW IntKind.u64 (wrI IntKind.u64 (selI (ltB g' 0) 0 g')) 1)) (eqL (notB (topB r2)) (notB (topB r2)) (AOut.ret (AV.bool (notB (topB r2)))
    = AOut.ret (AV.bool (roomF h m ls s h' g')))))))))))))))))))))))))))))))))))))))))))))))))))))))))))))))))))))))))) (eqI h' h' (need (rU r2) (need (rU r1) (need
    (rU r0) (need (rU r2_1) (need (rU r1_1) (need (rU r0_1) (∀ (r2_2 r1_2 r0_2 : Int), wok r2_2 r1_2 r0_2 (wv r2 r1 r0 + wv r2_1 r1_1 r0_1) → eqI h' h' (need (rI h')
    (∀ (r2 r1 r0 : Int), wok r2 r1 r0 h' → need (rU r2) (need (rU r1) (need (rU r0) (∀ (r2_3 r1_3 r0_3 : Int), wok r2_3 r1_3 r0_3 (-wv r2 r1 r0) → need (rU r2_2) (need
    (rU r1_2) (need (rU r0_2) (need (rU r2_3) (need (rU r1_3) (need (rU r0_3) (∀ (r2 r1 r0 : Int), wok r2 r1 r0 (wv r2_2 r1_2 r0_2 + wv r2_3 r1_3 r0_3) → need (rU r2)
    (need (rU r1) (need (rU r0) (∀ (r2_4 r1_4 r0_4 : Int), wok r2_4 r1_4 r0_4 (absW r2 r1 r0) → need (rU (wrI IntKind.u64 (selI (ltB s 0) 0 s))) (need (rU (addW IntKind.u64
    (wrI IntKind.u64 (selI (ltB g' 0) 0 g')) 1)) (eqI r2_4 r2_4 (eqI r1_4 r1_4 (eqI r0_4 r0_4 (eqI (hiM (wrI IntKind.u64 (selI (ltB s 0) 0 s)) (addW IntKind.u64 (wrI
    IntKind.u64 (selI (ltB g' 0) 0 g')) 1)) (hiM (wrI IntKind.u64 (selI (ltB s 0) 0 s)) (addW IntKind.u64 (wrI IntKind.u64 (selI (ltB g' 0) 0 g')) 1)) (eqI (loM (wrI
    IntKind.u64 (selI (ltB s 0) 0 s)) (addW IntKind.u64 (wrI IntKind.u64 (selI (ltB g' 0) 0 g')) 1)) (loM (wrI IntKind.u64 (selI (ltB s 0) 0 s)) (addW IntKind.u64 (wrI
    IntKind.u64 (selI (ltB g' 0) 0 g')) 1)) (eqI 0 0 (eqI (hiM (wrI IntKind.u64 (selI (ltB s 0) 0 s)) (addW IntKind.u64 (wrI IntKind.u64 (selI (ltB g' 0) 0 g')) 1))
    (hiM (wrI IntKind.u64 (selI (ltB s 0) 0 s)) (addW IntKind.u64 (wrI IntKind.u64 (selI (ltB g' 0) 0 g')) 1)) (eqI (loM (wrI IntKind.u64 (selI (ltB s 0) 0 s)) (addW
    IntKind.u64 (wrI IntKind.u64 (selI (ltB g' 0) 0 g')) 1)) (loM (wrI IntKind.u64 (selI (ltB s 0) 0 s)) (addW IntKind.u64 (wrI IntKind.u64 (selI (ltB g' 0) 0 g')) 1))
    (eqI ls ls (need (rU 0) (need (rU (hiM (wrI IntKind.u64 (selI (ltB s 0) 0 s)) (addW IntKind.u64 (wrI IntKind.u64 (selI (ltB g' 0) 0 g')) 1))) (need (rU (loM (wrI
    IntKind.u64 (selI (ltB s 0) 0 s)) (addW IntKind.u64 (wrI IntKind.u64 (selI (ltB g' 0) 0 g')) 1))) (∀ (r2 r1 r0 : Int), wok r2 r1 r0 (-wv 0 (hiM (wrI IntKind.u64
    (selI (ltB s 0) 0 s)) (addW IntKind.u64 (wrI IntKind.u64 (selI (ltB g' 0) 0 g')) 1)) (loM (wrI IntKind.u64 (selI (ltB s 0) 0 s)) (addW IntKind.u64 (wrI IntKind.u64
    (selI (ltB g' 0) 0 g')) 1))) → eqI r2_4 r2_4 (eqI r1_4 r1_4 (eqI r0_4 r0_4 (eqI (hiM (wrI IntKind.u64 (selI (ltB s 0) 0 s)) (addW IntKind.u64 (wrI IntKind.u64 (selI
    (ltB g' 0) 0 g')) 1)) (hiM (wrI IntKind.u64 (selI (ltB s 0) 0 s)) (addW IntKind.u64 (wrI IntKind.u64 (selI (ltB g' 0) 0 g')) 1)) (eqI (loM (wrI IntKind.u64 (selI
    (ltB s 0) 0 s)) (addW IntKind.u64 (wrI IntKind.u64 (selI (ltB g' 0) 0 g')) 1)) (loM (wrI IntKind.u64 (selI (ltB s 0) 0 s)) (addW IntKind.u64 (wrI IntKind.u64 (selI
    (ltB g' 0) 0 g')) 1)) (eqI ls ls (need (rU r2_4) (need (rU r1_4) (need (rU r0_4) (need (rU r2) (need (rU r1) (need (rU r0) (∀ (r2_5 r1_5 r0_5 : Int), wok r2_5 r1_5
    r0_5 (wv r2_4 r1_4 r0_4 + wv r2 r1 r0) → eqI (hiM (wrI IntKind.u64 (selI (ltB s 0) 0 s)) (addW IntKind.u64 (wrI IntKind.u64 (selI (ltB g' 0) 0 g')) 1)) (hiM (wrI
    IntKind.u64 (selI (ltB s 0) 0 s)) (addW IntKind.u64 (wrI IntKind.u64 (selI (ltB g' 0) 0 g')) 1)) (eqI (loM (wrI IntKind.u64 (selI (ltB s 0) 0 s)) (addW IntKind.u64
    (wrI IntKind.u64 (selI (ltB g' 0) 0 g')) 1)) (loM (wrI IntKind.u64 (selI (ltB s 0) 0 s)) (addW IntKind.u64 (wrI IntKind.u64 (selI (ltB g' 0) 0 g')) 1)) (eqI ls ls
    (need (rI ls) (∀ (r2 r1 r0 : Int), wok r2 r1 r0 ls → eqI (hiM (wrI IntKind.u64 (selI (ltB s 0) 0 s)) (addW IntKind.u64 (wrI IntKind.u64 (selI (ltB g' 0) 0 g')) 1))
    (hiM (wrI IntKind.u64 (selI (ltB s 0) 0 s)) (addW IntKind.u64 (wrI IntKind.u64 (selI (ltB g' 0) 0 g')) 1)) (eqI (loM (wrI IntKind.u64 (selI (ltB s 0) 0 s)) (addW
    IntKind.u64 (wrI IntKind.u64 (selI (ltB g' 0) 0 g')) 1)) (loM (wrI IntKind.u64 (selI (ltB s 0) 0 s)) (addW IntKind.u64 (wrI IntKind.u64 (selI (ltB g' 0) 0 g')) 1))
    (need (rU r2) (need (rU r1) (need (rU r0) (∀ (r2_6 r1_6 r0_6 : Int), wok r2_6 r1_6 r0_6 (-wv r2 r1 r0) → eqI (hiM (wrI IntKind.u64 (selI (ltB s 0) 0 s)) (addW IntKind.u64
    (wrI IntKind.u64 (selI (ltB g' 0) 0 g')) 1)) (hiM (wrI IntKind.u64 (selI (ltB s 0) 0 s)) (addW IntKind.u64 (wrI IntKind.u64 (selI (ltB g' 0) 0 g')) 1)) (eqI (loM
    (wrI IntKind.u64 (selI (ltB s 0) 0 s)) (addW IntKind.u64 (wrI IntKind.u64 (selI (ltB g' 0) 0 g')) 1)) (loM (wrI IntKind.u64 (selI (ltB s 0) 0 s)) (addW IntKind.u64
    (wrI IntKind.u64 (selI (ltB g' 0) 0 g')) 1)) (need (rU r2_5) (need (rU r1_5) (need (rU r0_5) (need (rU r2_6) (need (rU r1_6) (need (rU r0_6) (∀ (r2 r1 r0 : Int),
    wok r2 r1 r0 (wv r2_5 r1_5 r0_5 + wv r2_6 r1_6 r0_6) → eqI (hiM (wrI IntKind.u64 (selI (ltB s 0) 0 s)) (addW IntKind.u64 (wrI IntKind.u64 (selI (ltB g' 0) 0 g'))
    1)) (hiM (wrI IntKind.u64 (selI (ltB s 0) 0 s)) (addW IntKind.u64 (wrI IntKind.u64 (selI (ltB g' 0) 0 g')) 1)) (eqI (loM (wrI IntKind.u64 (selI (ltB s 0) 0 s)) (addW
    IntKind.u64 (wrI IntKind.u64 (selI (ltB g' 0) 0 g')) 1)) (loM (wrI IntKind.u64 (selI (ltB s 0) 0 s)) (addW IntKind.u64 (wrI IntKind.u64 (selI (ltB g' 0) 0 g')) 1))
    (need (rU r2) (eqI (hiM (wrI IntKind.u64 (selI (ltB s 0) 0 s)) (addW IntKind.u64 (wrI IntKind.u64 (selI (ltB g' 0) 0 g')) 1)) (hiM (wrI IntKind.u64 (selI (ltB s
    0) 0 s)) (addW IntKind.u64 (wrI IntKind.u64 (selI (ltB g' 0) 0 g')) 1)) (eqI (loM (wrI IntKind.u64 (selI (ltB s 0) 0 s)) (addW IntKind.u64 (wrI IntKind.u64 (selI
    (ltB g' 0) 0 g')) 1)) (loM (wrI IntKind.u64 (selI (ltB s 0) 0 s)) (addW IntKind.u64 (wrI IntKind.u64 (selI (ltB g' 0) 0 g')) 1)) (eqL (notB (topB r2)) (notB (topB
    r2)) (AOut.ret (AV.bool (notB (topB r2))) = AOut.ret (AV.bool (roomF h m ls s h' g')))))))))))))))))))))))))))))))))))))))))))))))))))))))))))))))))))))))))))) (eqI
    m m (eqI h' h' (need (rI m) (∀ (r2_1 r1_1 r0_1 : Int), wok r2_1 r1_1 r0_1 m → eqI h' h' (need (rU r2) (need (rU r1) (need (rU r0) (need (rU r2_1) (need (rU r1_1)
    (need (rU r0_1) (∀ (r2_2 r1_2 r0_2 : Int), wok r2_2 r1_2 r0_2 (wv r2 r1 r0 + wv r2_1 r1_1 r0_1) → eqI h' h' (need (rI h') (∀ (r2 r1 r0 : Int), wok r2 r1 r0 h' →
    need (rU r2) (need (rU r1) (need (rU r0) (∀ (r2_3 r1_3 r0_3 : Int), wok r2_3 r1_3 r0_3 (-wv r2 r1 r0) → need (rU r2_2) (need (rU r1_2) (need (rU r0_2) (need (rU
    r2_3) (need (rU r1_3) (need (rU r0_3) (∀ (r2 r1 r0 : Int), wok r2 r1 r0 (wv r2_2 r1_2 r0_2 + wv r2_3 r1_3 r0_3) → need (rU r2) (need (rU r1) (need (rU r0) (∀ (r2_4
    r1_4 r0_4 : Int), wok r2_4 r1_4 r0_4 (absW r2 r1 r0) → need (rU (wrI IntKind.u64 (selI (ltB s 0) 0 s))) (need (rU (addW IntKind.u64 (wrI IntKind.u64 (selI (ltB g'
    0) 0 g')) 1)) (eqI r2_4 r2_4 (eqI r1_4 r1_4 (eqI r0_4 r0_4 (eqI (hiM (wrI IntKind.u64 (selI (ltB s 0) 0 s)) (addW IntKind.u64 (wrI IntKind.u64 (selI (ltB g' 0) 0
    g')) 1)) (hiM (wrI IntKind.u64 (selI (ltB s 0) 0 s)) (addW IntKind.u64 (wrI IntKind.u64 (selI (ltB g' 0) 0 g')) 1)) (eqI (loM (wrI IntKind.u64 (selI (ltB s 0) 0
    s)) (addW IntKind.u64 (wrI IntKind.u64 (selI (ltB g' 0) 0 g')) 1)) (loM (wrI IntKind.u64 (selI (ltB s 0) 0 s)) (addW IntKind.u64 (wrI IntKind.u64 (selI (ltB g' 0)
    0 g')) 1)) (eqI 0 0 (eqI (hiM (wrI IntKind.u64 (selI (ltB s 0) 0 s)) (addW IntKind.u64 (wrI IntKind.u64 (selI (ltB g' 0) 0 g')) 1)) (hiM (wrI IntKind.u64 (selI (ltB
    s 0) 0 s)) (addW IntKind.u64 (wrI IntKind.u64 (selI (ltB g' 0) 0 g')) 1)) (eqI (loM (wrI IntKind.u64 (selI (ltB s 0) 0 s)) (addW IntKind.u64 (wrI IntKind.u64 (selI
    (ltB g' 0) 0 g')) 1)) (loM (wrI IntKind.u64 (selI (ltB s 0) 0 s)) (addW IntKind.u64 (wrI IntKind.u64 (selI (ltB g' 0) 0 g')) 1)) (eqI ls ls (need (rU 0) (need (rU
    (hiM (wrI IntKind.u64 (selI (ltB s 0) 0 s)) (addW IntKind.u64 (wrI IntKind.u64 (selI (ltB g' 0) 0 g')) 1))) (need (rU (loM (wrI IntKind.u64 (selI (ltB s 0) 0 s))
    (addW IntKind.u64 (wrI IntKind.u64 (selI (ltB g' 0) 0 g')) 1))) (∀ (r2 r1 r0 : Int), wok r2 r1 r0 (-wv 0 (hiM (wrI IntKind.u64 (selI (ltB s 0) 0 s)) (addW IntKind.u64
    (wrI IntKind.u64 (selI (ltB g' 0) 0 g')) 1)) (loM (wrI IntKind.u64 (selI (ltB s 0) 0 s)) (addW IntKind.u64 (wrI IntKind.u64 (selI (ltB g' 0) 0 g')) 1))) → eqI r2_4
    r2_4 (eqI r1_4 r1_4 (eqI r0_4 r0_4 (eqI (hiM (wrI IntKind.u64 (selI (ltB s 0) 0 s)) (addW IntKind.u64 (wrI IntKind.u64 (selI (ltB g' 0) 0 g')) 1)) (hiM (wrI IntKind.u64
    (selI (ltB s 0) 0 s)) (addW IntKind.u64 (wrI IntKind.u64 (selI (ltB g' 0) 0 g')) 1)) (eqI (loM (wrI IntKind.u64 (selI (ltB s 0) 0 s)) (addW IntKind.u64 (wrI IntKind.u64
    (selI (ltB g' 0) 0 g')) 1)) (loM (wrI IntKind.u64 (selI (ltB s 0) 0 s)) (addW IntKind.u64 (wrI IntKind.u64 (selI (ltB g' 0) 0 g')) 1)) (eqI ls ls (need (rU r2_4)
    (need (rU r1_4) (need (rU r0_4) (need (rU r2) (need (rU r1) (need (rU r0) (∀ (r2_5 r1_5 r0_5 : Int), wok r2_5 r1_5 r0_5 (wv r2_4 r1_4 r0_4 + wv r2 r1 r0) → eqI (hiM
    (wrI IntKind.u64 (selI (ltB s 0) 0 s)) (addW IntKind.u64 (wrI IntKind.u64 (selI (ltB g' 0) 0 g')) 1)) (hiM (wrI IntKind.u64 (selI (ltB s 0) 0 s)) (addW IntKind.u64
    (wrI IntKind.u64 (selI (ltB g' 0) 0 g')) 1)) (eqI (loM (wrI IntKind.u64 (selI (ltB s 0) 0 s)) (addW IntKind.u64 (wrI IntKind.u64 (selI (ltB g' 0) 0 g')) 1)) (loM
    (wrI IntKind.u64 (selI (ltB s 0) 0 s)) (addW IntKind.u64 (wrI IntKind.u64 (selI (ltB g' 0) 0 g')) 1)) (eqI ls ls (need (rI ls) (∀ (r2 r1 r0 : Int), wok r2 r1 r0
    ls → eqI (hiM (wrI IntKind.u64 (selI (ltB s 0) 0 s)) (addW IntKind.u64 (wrI IntKind.u64 (selI (ltB g' 0) 0 g')) 1)) (hiM (wrI IntKind.u64 (selI (ltB s 0) 0 s)) (addW
    IntKind.u64 (wrI IntKind.u64 (selI (ltB g' 0) 0 g')) 1)) (eqI (loM (wrI IntKind.u64 (selI (ltB s 0) 0 s)) (addW IntKind.u64 (wrI IntKind.u64 (selI (ltB g' 0) 0 g'))
    1)) (loM (wrI IntKind.u64 (selI (ltB s 0) 0 s)) (addW IntKind.u64 (wrI IntKind.u64 (selI (ltB g' 0) 0 g')) 1)) (need (rU r2) (need (rU r1) (need (rU r0) (∀ (r2_6
    r1_6 r0_6 : Int), wok r2_6 r1_6 r0_6 (-wv r2 r1 r0) → eqI (hiM (wrI IntKind.u64 (selI (ltB s 0) 0 s)) (addW IntKind.u64 (wrI IntKind.u64 (selI (ltB g' 0) 0 g'))
    1)) (hiM (wrI IntKind.u64 (selI (ltB s 0) 0 s)) (addW IntKind.u64 (wrI IntKind.u64 (selI (ltB g' 0) 0 g')) 1)) (eqI (loM (wrI IntKind.u64 (selI (ltB s 0) 0 s)) (addW
    IntKind.u64 (wrI IntKind.u64 (selI (ltB g' 0) 0 g')) 1)) (loM (wrI IntKind.u64 (selI (ltB s 0) 0 s)) (addW IntKind.u64 (wrI IntKind.u64 (selI (ltB g' 0) 0 g')) 1))
    (need (rU r2_5) (need (rU r1_5) (need (rU r0_5) (need (rU r2_6) (need (rU r1_6) (need (rU r0_6) (∀ (r2 r1 r0 : Int), wok r2 r1 r0 (wv r2_5 r1_5 r0_5 + wv r2_6 r1_6
    r0_6) → eqI (hiM (wrI IntKind.u64 (selI (ltB s 0) 0 s)) (addW IntKind.u64 (wrI IntKind.u64 (selI (ltB g' 0) 0 g')) 1)) (hiM (wrI IntKind.u64 (selI (ltB s 0) 0 s))
    (addW IntKind.u64 (wrI IntKind.u64 (selI (ltB g' 0) 0 g')) 1)) (eqI (loM (wrI IntKind.u64 (selI (ltB s 0) 0 s)) (addW IntKind.u64 (wrI IntKind.u64 (selI (ltB g'
    0) 0 g')) 1)) (loM (wrI IntKind.u64 (selI (ltB s 0) 0 s)) (addW IntKind.u64 (wrI IntKind.u64 (selI (ltB g' 0) 0 g')) 1)) (need (rU r2) (eqI (hiM (wrI IntKind.u64
    (selI (ltB s 0) 0 s)) (addW IntKind.u64 (wrI IntKind.u64 (selI (ltB g' 0) 0 g')) 1)) (hiM (wrI IntKind.u64 (selI (ltB s 0) 0 s)) (addW IntKind.u64 (wrI IntKind.u64
    (selI (ltB g' 0) 0 g')) 1)) (eqI (loM (wrI IntKind.u64 (selI (ltB s 0) 0 s)) (addW IntKind.u64 (wrI IntKind.u64 (selI (ltB g' 0) 0 g')) 1)) (loM (wrI IntKind.u64
    (selI (ltB s 0) 0 s)) (addW IntKind.u64 (wrI IntKind.u64 (selI (ltB g' 0) 0 g')) 1)) (eqL (notB (topB r2)) (notB (topB r2)) (AOut.ret (AV.bool (notB (topB r2)))
    = AOut.ret (AV.bool (roomF h m ls s h' g')))))))))))))))))))))))))))))))))))))))))))))))))))))))))))))))))))))))))))))))) (eqI h h (eqI m m (eqI h' h' (need (rI
    h) (∀ (r2 r1 r0 : Int), wok r2 r1 r0 h → eqI m m (eqI h' h' (need (rI m) (∀ (r2_1 r1_1 r0_1 : Int), wok r2_1 r1_1 r0_1 m → eqI h' h' (need (rU r2) (need (rU r1)
    (need (rU r0) (need (rU r2_1) (need (rU r1_1) (need (rU r0_1) (∀ (r2_2 r1_2 r0_2 : Int), wok r2_2 r1_2 r0_2 (wv r2 r1 r0 + wv r2_1 r1_1 r0_1) → eqI h' h' (need (rI
    h') (∀ (r2 r1 r0 : Int), wok r2 r1 r0 h' → need (rU r2) (need (rU r1) (need (rU r0) (∀ (r2_3 r1_3 r0_3 : Int), wok r2_3 r1_3 r0_3 (-wv r2 r1 r0) → need (rU r2_2)
    (need (rU r1_2) (need (rU r0_2) (need (rU r2_3) (need (rU r1_3) (need (rU r0_3) (∀ (r2 r1 r0 : Int), wok r2 r1 r0 (wv r2_2 r1_2 r0_2 + wv r2_3 r1_3 r0_3) → need
    (rU r2) (need (rU r1) (need (rU r0) (∀ (r2_4 r1_4 r0_4 : Int), wok r2_4 r1_4 r0_4 (absW r2 r1 r0) → need (rU (wrI IntKind.u64 (selI (ltB s 0) 0 s))) (need (rU (addW
    IntKind.u64 (wrI IntKind.u64 (selI (ltB g' 0) 0 g')) 1)) (eqI r2_4 r2_4 (eqI r1_4 r1_4 (eqI r0_4 r0_4 (eqI (hiM (wrI IntKind.u64 (selI (ltB s 0) 0 s)) (addW IntKind.u64
    (wrI IntKind.u64 (selI (ltB g' 0) 0 g')) 1)) (hiM (wrI IntKind.u64 (selI (ltB s 0) 0 s)) (addW IntKind.u64 (wrI IntKind.u64 (selI (ltB g' 0) 0 g')) 1)) (eqI (loM
    (wrI IntKind.u64 (selI (ltB s 0) 0 s)) (addW IntKind.u64 (wrI IntKind.u64 (selI (ltB g' 0) 0 g')) 1)) (loM (wrI IntKind.u64 (selI (ltB s 0) 0 s)) (addW IntKind.u64
    (wrI IntKind.u64 (selI (ltB g' 0) 0 g')) 1)) (eqI 0 0 (eqI (hiM (wrI IntKind.u64 (selI (ltB s 0) 0 s)) (addW IntKind.u64 (wrI IntKind.u64 (selI (ltB g' 0) 0 g'))
    1)) (hiM (wrI IntKind.u64 (selI (ltB s 0) 0 s)) (addW IntKind.u64 (wrI IntKind.u64 (selI (ltB g' 0) 0 g')) 1)) (eqI (loM (wrI IntKind.u64 (selI (ltB s 0) 0 s)) (addW
    IntKind.u64 (wrI IntKind.u64 (selI (ltB g' 0) 0 g')) 1)) (loM (wrI IntKind.u64 (selI (ltB s 0) 0 s)) (addW IntKind.u64 (wrI IntKind.u64 (selI (ltB g' 0) 0 g')) 1))
    (eqI ls ls (need (rU 0) (need (rU (hiM (wrI IntKind.u64 (selI (ltB s 0) 0 s)) (addW IntKind.u64 (wrI IntKind.u64 (selI (ltB g' 0) 0 g')) 1))) (need (rU (loM (wrI
    IntKind.u64 (selI (ltB s 0) 0 s)) (addW IntKind.u64 (wrI IntKind.u64 (selI (ltB g' 0) 0 g')) 1))) (∀ (r2 r1 r0 : Int), wok r2 r1 r0 (-wv 0 (hiM (wrI IntKind.u64
    (selI (ltB s 0) 0 s)) (addW IntKind.u64 (wrI IntKind.u64 (selI (ltB g' 0) 0 g')) 1)) (loM (wrI IntKind.u64 (selI (ltB s 0) 0 s)) (addW IntKind.u64 (wrI IntKind.u64
    (selI (ltB g' 0) 0 g')) 1))) → eqI r2_4 r2_4 (eqI r1_4 r1_4 (eqI r0_4 r0_4 (eqI (hiM (wrI IntKind.u64 (selI (ltB s 0) 0 s)) (addW IntKind.u64 (wrI IntKind.u64 (selI
    (ltB g' 0) 0 g')) 1)) (hiM (wrI IntKind.u64 (selI (ltB s 0) 0 s)) (addW IntKind.u64 (wrI IntKind.u64 (selI (ltB g' 0) 0 g')) 1)) (eqI (loM (wrI IntKind.u64 (selI
    (ltB s 0) 0 s)) (addW IntKind.u64 (wrI IntKind.u64 (selI (ltB g' 0) 0 g')) 1)) (loM (wrI IntKind.u64 (selI (ltB s 0) 0 s)) (addW IntKind.u64 (wrI IntKind.u64 (selI
    (ltB g' 0) 0 g')) 1)) (eqI ls ls (need (rU r2_4) (need (rU r1_4) (need (rU r0_4) (need (rU r2) (need (rU r1) (need (rU r0) (∀ (r2_5 r1_5 r0_5 : Int), wok r2_5 r1_5
    r0_5 (wv r2_4 r1_4 r0_4 + wv r2 r1 r0) → eqI (hiM (wrI IntKind.u64 (selI (ltB s 0) 0 s)) (addW IntKind.u64 (wrI IntKind.u64 (selI (ltB g' 0) 0 g')) 1)) (hiM (wrI
    IntKind.u64 (selI (ltB s 0) 0 s)) (addW IntKind.u64 (wrI IntKind.u64 (selI (ltB g' 0) 0 g')) 1)) (eqI (loM (wrI IntKind.u64 (selI (ltB s 0) 0 s)) (addW IntKind.u64
    (wrI IntKind.u64 (selI (ltB g' 0) 0 g')) 1)) (loM (wrI IntKind.u64 (selI (ltB s 0) 0 s)) (addW IntKind.u64 (wrI IntKind.u64 (selI (ltB g' 0) 0 g')) 1)) (eqI ls ls
    (need (rI ls) (∀ (r2 r1 r0 : Int), wok r2 r1 r0 ls → eqI (hiM (wrI IntKind.u64 (selI (ltB s 0) 0 s)) (addW IntKind.u64 (wrI IntKind.u64 (selI (ltB g' 0) 0 g')) 1))
    (hiM (wrI IntKind.u64 (selI (ltB s 0) 0 s)) (addW IntKind.u64 (wrI IntKind.u64 (selI (ltB g' 0) 0 g')) 1)) (eqI (loM (wrI IntKind.u64 (selI (ltB s 0) 0 s)) (addW
    IntKind.u64 (wrI IntKind.u64 (selI (ltB g' 0) 0 g')) 1)) (loM (wrI IntKind.u64 (selI (ltB s 0) 0 s)) (addW IntKind.u64 (wrI IntKind.u64 (selI (ltB g' 0) 0 g')) 1))
    (need (rU r2) (need (rU r1) (need (rU r0) (∀ (r2_6 r1_6 r0_6 : Int), wok r2_6 r1_6 r0_6 (-wv r2 r1 r0) → eqI (hiM (wrI IntKind.u64 (selI (ltB s 0) 0 s)) (addW IntKind.u64
    (wrI IntKind.u64 (selI (ltB g' 0) 0 g')) 1)) (hiM (wrI IntKind.u64 (selI (ltB s 0) 0 s)) (addW IntKind.u64 (wrI IntKind.u64 (selI (ltB g' 0) 0 g')) 1)) (eqI (loM
    (wrI IntKind.u64 (selI (ltB s 0) 0 s)) (addW IntKind.u64 (wrI IntKind.u64 (selI (ltB g' 0) 0 g')) 1)) (loM (wrI IntKind.u64 (selI (ltB s 0) 0 s)) (addW IntKind.u64
    (wrI IntKind.u64 (selI (ltB g' 0) 0 g')) 1)) (need (rU r2_5) (need (rU r1_5) (need (rU r0_5) (need (rU r2_6) (need (rU r1_6) (need (rU r0_6) (∀ (r2 r1 r0 : Int),
    wok r2 r1 r0 (wv r2_5 r1_5 r0_5 + wv r2_6 r1_6 r0_6) → eqI (hiM (wrI IntKind.u64 (selI (ltB s 0) 0 s)) (addW IntKind.u64 (wrI IntKind.u64 (selI (ltB g' 0) 0 g'))
    1)) (hiM (wrI IntKind.u64 (selI (ltB s 0) 0 s)) (addW IntKind.u64 (wrI IntKind.u64 (selI (ltB g' 0) 0 g')) 1)) (eqI (loM (wrI IntKind.u64 (selI (ltB s 0) 0 s)) (addW
    IntKind.u64 (wrI IntKind.u64 (selI (ltB g' 0) 0 g')) 1)) (loM (wrI IntKind.u64 (selI (ltB s 0) 0 s)) (addW IntKind.u64 (wrI IntKind.u64 (selI (ltB g' 0) 0 g')) 1))
    (need (rU r2) (eqI (hiM (wrI IntKind.u64 (selI (ltB s 0) 0 s)) (addW IntKind.u64 (wrI IntKind.u64 (selI (ltB g' 0) 0 g')) 1)) (hiM (wrI IntKind.u64 (selI (ltB s
    0) 0 s)) (addW IntKind.u64 (wrI IntKind.u64 (selI (ltB g' 0) 0 g')) 1)) (eqI (loM (wrI IntKind.u64 (selI (ltB s 0) 0 s)) (addW IntKind.u64 (wrI IntKind.u64 (selI
    (ltB g' 0) 0 g')) 1)) (loM (wrI IntKind.u64 (selI (ltB s 0) 0 s)) (addW IntKind.u64 (wrI IntKind.u64 (selI (ltB g' 0) 0 g')) 1)) (eqL (notB (topB r2)) (notB (topB
    r2)) (AOut.ret (AV.bool (notB (topB r2))) = AOut.ret (AV.bool (roomF h m ls s h' g')))))))))))))))))))))))))))))))))))))))))))))))))))))))))))))))))))))))))))))))))))) := by kernel_rfl
theorem room_ok : SpecOK Try.prog 22 (fspecS (pureN [] roomS)) := pureN_ok (mkCall fsOK_mul specsOK_size fnsOK) (.any) (fun vs w => Try.call22 vs w) fun args ps v h hp => by
  unfold roomS at h
  split at h
  · cases h
    rename_i i h g m ls s i' h' g'
    rw [room_eq]
    simp only [allP_cons, allP_nil, and_true] at hp
    obtain ⟨h1, h2, h3, h4, h5, h6⟩ := id hp
    have ms : wrI .u64 (selI (ltB s 0) 0 s) = max s 0 := max_val h4
    have mg : wrI .u64 (selI (ltB g' 0) 0 g') = max g' 0 := max_val h6
    have ma : addW .u64 (max g' 0) 1 = max g' 0 + 1 := by unfold rI at h6; simp only [addW, wrapU64]; omega
    have r1 : rU (max s 0) := max_rU h4
    have r2 : rU (max g' 0 + 1) := by unfold rI at h6; unfold rU; omega
    have r3 : rU 0 := by unfold rU; omega
    have r4 : rU (hiM (max s 0) (max g' 0 + 1)) := by
      have bx := mul_bound (m := 9223372036854775808) (a := max s 0) (b := max g' 0 + 1) (by unfold rI at h4; omega) (by unfold rI at h6; omega)
      unfold hiM rU; omega
    have r5 : rU (loM (max s 0) (max g' 0 + 1)) := by unfold loM rU; omega
    simp only [ms, mg, ma, need_def, eqI_def, true_and, and_true, h1, h2, h3, h5, r1, r2, r3, r4, r5]
    repeat' (first
      | with_reducible rfl
      | (apply room_fin hp <;> assumption)
      | (apply wok1; assumption)
      | (apply wok2; assumption)
      | (apply wok3; assumption)
      | refine ⟨?_, ?_⟩
      | (intro _ _ _ _))
  · cases h
noncomputable def fs_room : FS := (22, pureN [] roomS) :: fs_mul
theorem fsOK_room : FSOK Try.prog fs_room := fsOK_cons room_ok fsOK_mul
noncomputable def gapS : List AV → OV := fun args => match args with | [.agg [.int .i64 i, .int .i64 h, .int .i64 g], .agg [.int .i64 i', .int .i64 h', .int .i64 g'], .int .i64 s] => some ([rI h, rI h', rI g', rI s], .int .i64 (gapF h h' g' s)) | _ => none
theorem gap_eq (i h g i' h' g' s : Int) : acall tab fs_room specs_size fns 100 20 14 [.agg [.int .i64 i, .int .i64 h, .int .i64 g], .agg [.int .i64 i', .int .i64 h', .int .i64 g'], .int .i64 s] [] (fun o mm _ _ => resN (.any) mm o = .ret (.int .i64 (gapF h h' g' s))) =
  (need (rI h) (need (rI h') (need (rU (wrI IntKind.u64 (selI (ltB s 0) 0 s))) (need (rU (wrI IntKind.u64 (selI (ltB g' 0) 0 g'))) (AOut.ret (AV.int IntKind.i64 (wrI
    IntKind.i64 (subW IntKind.u64 (selI (ltB 9223372036854775807 (apartF h h')) 9223372036854775807 (apartF h h')) (selI (ltB (selI (ltB 9223372036854775807 (apartF
    h h')) 9223372036854775807 (apartF h h')) (selI (ltB 9223372036854775807 (selI (ltB 0 (hiM (wrI IntKind.u64 (selI (ltB s 0) 0 s)) (wrI IntKind.u64 (selI (ltB g'
    0) 0 g')))) 9223372036854775807 (loM (wrI IntKind.u64 (selI (ltB s 0) 0 s)) (wrI IntKind.u64 (selI (ltB g' 0) 0 g'))))) 9223372036854775807 (selI (ltB 0 (hiM (wrI
    IntKind.u64 (selI (ltB s 0) 0 s)) (wrI IntKind.u64 (selI (ltB g' 0) 0 g')))) 9223372036854775807 (loM (wrI IntKind.u64 (selI (ltB s 0) 0 s)) (wrI IntKind.u64 (selI
    (ltB g' 0) 0 g')))))) (selI (ltB 9223372036854775807 (apartF h h')) 9223372036854775807 (apartF h h')) (selI (ltB 9223372036854775807 (selI (ltB 0 (hiM (wrI IntKind.u64
    (selI (ltB s 0) 0 s)) (wrI IntKind.u64 (selI (ltB g' 0) 0 g')))) 9223372036854775807 (loM (wrI IntKind.u64 (selI (ltB s 0) 0 s)) (wrI IntKind.u64 (selI (ltB g' 0)
    0 g'))))) 9223372036854775807 (selI (ltB 0 (hiM (wrI IntKind.u64 (selI (ltB s 0) 0 s)) (wrI IntKind.u64 (selI (ltB g' 0) 0 g')))) 9223372036854775807 (loM (wrI IntKind.u64
    (selI (ltB s 0) 0 s)) (wrI IntKind.u64 (selI (ltB g' 0) 0 g'))))))))) = AOut.ret (AV.int IntKind.i64 (gapF h h' g' s))))))) := by kernel_rfl
theorem gap_ok : SpecOK Try.prog 14 (fspecS (pureN [] gapS)) := pureN_ok (mkCall fsOK_room specsOK_size fnsOK) (.any) (fun vs w => Try.call14 vs w) fun args ps v h hp => by
  unfold gapS at h
  split at h
  · cases h
    rename_i i h g i' h' g' s
    rw [gap_eq]
    simp only [allP_cons, allP_nil, and_true] at hp
    have ms : wrI .u64 (selI (ltB s 0) 0 s) = max s 0 := max_val hp.2.2.2
    have mg : wrI .u64 (selI (ltB g' 0) 0 g') = max g' 0 := max_val hp.2.2.1
    have r1 : rU (max s 0) := max_rU hp.2.2.2
    have r2 : rU (max g' 0) := max_rU hp.2.2.1
    simp only [need_def, ms, mg, r1, r2, hp.1, hp.2.1, true_and, selmin]
    have b := mul_bound (m := 9223372036854775807) (a := max s 0) (b := max g' 0) (by have := hp.2.2.2; unfold rI at this; omega) (by have := hp.2.2.1; unfold rI at this; omega)
    have ba := apart_bound hp.1 hp.2.1
    unfold hiM loM gapF
    generalize max s 0 * max g' 0 = p at *
    generalize apartF h h' = d at *
    congr 2
    simp only [subW, wrI, wrapU64, wrapI64, selI_def, ltB_def, decide_eq_true_eq]
    (repeat' split) <;> omega
  · cases h
noncomputable def fs_gap : FS := (14, pureN [] gapS) :: fs_room
theorem fsOK_gap : FSOK Try.prog fs_gap := fsOK_cons gap_ok fsOK_room
end Go.Proofs.Yticnfdlfhakneaa.Sx

