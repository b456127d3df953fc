/- Exact sums: what the functions come to. -/
import Derived.Test.YtmdjpohmbkodeaaSmCoreC
import Derived.Test.YtmdjpohmbkodeaaPlTreeP
import Derived.Test.YtmdjpohmbkodeaaSx13
import Derived.Laws.Externs
namespace Go.Proofs.Ytmdjpohmbkodeaa.Sx
open Go.RowKit
set_option maxRecDepth 100000
set_option maxHeartbeats 4000000
set_option linter.unusedVariables false
set_option linter.unusedSimpArgs false
@[reducible] def SumT : Ty := .prod (.int .u64) (.prod (.int .u64) (.int .u64))
def sv (x : den SumT) : Int := x.1 + x.2.1 * 18446744073709551616 + x.2.2 * 340282366920938463463374607431768211456
def sumS : List (den SumT) → Int
  | [] => 0
  | x :: l => sv x + sumS l
def rI (a : Int) : Prop := -9223372036854775808 ≤ a ∧ a ≤ 9223372036854775807
def c01 (c : Int) : Prop := c = 0 ∨ c = 1
def rU (a : Int) : Prop := 0 ≤ a ∧ a < 18446744073709551616
def sum3 (x y c : Int) : Int := (x + y + c) % 18446744073709551616
def car3 (x y c : Int) : Int := (x + y + c) / 18446744073709551616
def hiM (x y : Int) : Int := x * y / 18446744073709551616
def loM (x y : Int) : Int := x * y % 18446744073709551616
def notU (a : Int) : Int := 18446744073709551615 - a
def w0 (w : Int) : Int := w % 18446744073709551616
def w1 (w : Int) : Int := w / 18446744073709551616 % 18446744073709551616
def w2 (w : Int) : Int := w / 340282366920938463463374607431768211456 % 18446744073709551616
def sumF (l : List (den SumT)) : Int := sumS l
def negF (a b c : Int) : Int := -(a + b * 18446744073709551616 + c * 340282366920938463463374607431768211456)
def sizeU (x : Int) : Int := if x < 0 then -x else x
def proF (x y : Int) : Int := x * y
def lessF (a b c x y z : Int) : Bool := decide (3138550867693340381917894711603833208051177722232017256448 ≤ ((a + b * 18446744073709551616 + c * 340282366920938463463374607431768211456) - (x + y * 18446744073709551616 + z * 340282366920938463463374607431768211456)) % 6277101735386680763835789423207666416102355444464034512896)
def topB (a : Int) : Bool := decide (9223372036854775808 ≤ a)
def manyS (l : List (den SumT)) : Prop := lenI l ≤ 1000000000
noncomputable def add64S : FSpec := fun args m => match args with | [.int .u64 x, .int .u64 y, .int .u64 c] => some ([c01 c], .tup [.int .u64 (sum3 x y c), .int .u64 (car3 x y c)]) | _ => none
theorem add64_ext : ExtOK Try.prog 45 add64S := fun args m ps v h hp E w vs hR => by
  unfold add64S at h
  split at h
  · cases h
    obtain ⟨v1, us, rfl, h1, hR⟩ := hR
    obtain ⟨v2, us, rfl, h2, hR⟩ := hR
    obtain ⟨v3, us, rfl, h3, hR⟩ := hR
    simp only [RelL] at hR
    subst hR
    obtain ⟨rfl, g1⟩ := h1
    obtain ⟨rfl, g2⟩ := h2
    obtain ⟨rfl, g3⟩ := h3
    have e1 : IntKind.u64.min = 0 := by decide
    have e2 : IntKind.u64.max = 18446744073709551615 := by decide
    unfold IntKind.has at g1 g2 g3
    rw [e1, e2] at g1 g2 g3
    have hc : c01 _ := (allP_cons.1 hp).1
    unfold c01 at hc
    refine ⟨_, ?_, ⟨_, rfl, _, _, rfl, ⟨rfl, ?_⟩, _, _, rfl, ⟨rfl, ?_⟩, rfl⟩⟩
    · rw [run_callFunc_extern Try.func45 (by kernel_rfl) (by kernel_rfl) (by kernel_rfl) (e := add64Entry) (by kernel_rfl), run_add64 _ _ _ g1.1 g2.1 (by omega) (by omega)]
      rfl
    · unfold IntKind.has sum3; rw [e1, e2]; omega
    · unfold IntKind.has car3; rw [e1, e2]; omega
  · cases h
noncomputable def fs_add64 : FS := (1000045, add64S) :: fs_norm
theorem fsOK_add64 : FSOK Try.prog fs_add64 := fsOK_ext (f := 45) add64_ext fsOK_norm
theorem car_c01 {x y c : Int} (hx : rU x) (hy : rU y) (hc : c01 c) : c01 (car3 x y c) := by
  unfold rU c01 car3 at *; omega
theorem shr_val {k : IntKind} {a : Int} (n : Int) (p : Int) (h : (2 : Int) ^ (min n.toNat k.bits) = p) (hp : 0 ≤ p) : shrW k a n = a / p := by
  unfold shrW
  rw [h, Int.fdiv_eq_ediv_of_nonneg _ hp]
theorem not_val {a : Int} (h : rU a) : bxorW .u64 a 18446744073709551615 = notU a := by
  unfold rU at h
  have e2 : (BitVec.ofInt 64 a ^^^ BitVec.ofInt 64 18446744073709551615) = ~~~ (BitVec.ofInt 64 a) := by
    rw [show BitVec.ofInt 64 18446744073709551615 = BitVec.allOnes 64 by decide, BitVec.xor_allOnes]
  have e3 : (BitVec.ofInt 64 a).toNat = a.toNat := by
    rw [BitVec.toNat_ofInt]
    have : (2 : Nat) ^ 64 = 18446744073709551616 := by decide
    omega
  have e4 : bxorW .u64 a 18446744073709551615 = IntKind.wrap .u64 ((~~~ (BitVec.ofInt 64 a)).toNat : Int) := by
    rw [← e2]; rfl
  rw [e4, BitVec.toNat_not, e3, wrapU64]
  unfold notU
  have : (2 : Nat) ^ 64 = 18446744073709551616 := by decide
  omega
theorem not_rU {a : Int} (h : rU a) : rU (notU a) := by unfold rU notU at *; omega
theorem band_val {a : Int} (h : rU a) : bandW .u64 a 4294967295 = a % 4294967296 := by
  unfold rU at h
  have e3 : (BitVec.ofInt 64 a).toNat = a.toNat := by
    rw [BitVec.toNat_ofInt]
    have : (2 : Nat) ^ 64 = 18446744073709551616 := by decide
    omega
  have e4 : (BitVec.ofInt 64 (4294967295 : Int)).toNat = 2 ^ 32 - 1 := by decide
  have e5 : bandW .u64 a 4294967295 = IntKind.wrap .u64 ((BitVec.ofInt 64 a &&& BitVec.ofInt 64 4294967295).toNat : Int) := rfl
  rw [e5, BitVec.toNat_and, e3, e4, Nat.and_two_pow_sub_one_eq_mod, wrapU64]
  have : (2 : Nat) ^ 32 = 4294967296 := by decide
  omega
theorem mul_bound {a b m : Int} (ha : 0 ≤ a ∧ a ≤ m) (hb : 0 ≤ b ∧ b ≤ m) : 0 ≤ a * b ∧ a * b ≤ m * m :=
  ⟨Int.mul_nonneg ha.1 hb.1, Int.mul_le_mul ha.2 hb.2 hb.1 (by omega)⟩
theorem mul_parts {x y : Int} (hx : rU x) (hy : rU y) : ∃ p11 p10 p01 p00 : Int, x / 4294967296 * (y / 4294967296) = p11 ∧ x / 4294967296 * (y % 4294967296) = p10 ∧ x % 4294967296 * (y / 4294967296) = p01 ∧ x % 4294967296 * (y % 4294967296) = p00 ∧
    x * y = 18446744073709551616 * p11 + 4294967296 * p10 + 4294967296 * p01 + p00 ∧ (0 ≤ p11 ∧ p11 ≤ 18446744065119617025) ∧ (0 ≤ p10 ∧ p10 ≤ 18446744065119617025) ∧ (0 ≤ p01 ∧ p01 ≤ 18446744065119617025) ∧ (0 ≤ p00 ∧ p00 ≤ 18446744065119617025) := by
  unfold rU at hx hy
  refine ⟨_, _, _, _, rfl, rfl, rfl, rfl, ?_, ?_⟩
  · have e1 : x = 4294967296 * (x / 4294967296) + x % 4294967296 := by omega
    have e2 : y = 4294967296 * (y / 4294967296) + y % 4294967296 := by omega
    generalize x / 4294967296 = x1 at *
    generalize x % 4294967296 = x0 at *
    generalize y / 4294967296 = y1 at *
    generalize y % 4294967296 = y0 at *
    subst e1 e2
    grind
  · have b1 : 0 ≤ x / 4294967296 ∧ x / 4294967296 ≤ 4294967295 := by omega
    have b2 : 0 ≤ x % 4294967296 ∧ x % 4294967296 ≤ 4294967295 := by omega
    have b3 : 0 ≤ y / 4294967296 ∧ y / 4294967296 ≤ 4294967295 := by omega
    have b4 : 0 ≤ y % 4294967296 ∧ y % 4294967296 ≤ 4294967295 := by omega
    exact ⟨mul_bound b1 b3, mul_bound b1 b4, mul_bound b2 b3, mul_bound b2 b4⟩
theorem mul_lo (x y : Int) : mulW .u64 x y = x * y % 18446744073709551616 := by simp only [mulW, wrapU64]
theorem mul_hi {x y : Int} (hx : rU x) (hy : rU y) : addW .u64 (addW .u64 (mulW .u64 (shrW .u64 x 32) (shrW .u64 y 32)) (shrW .u64 (addW .u64 (mulW .u64 (shrW .u64 x 32) (bandW .u64 y 4294967295)) (shrW .u64 (mulW .u64 (bandW .u64 x 4294967295) (bandW .u64 y 4294967295)) 32)) 32)) (shrW .u64 (addW .u64 (bandW .u64 (addW .u64 (mulW .u64 (shrW .u64 x 32) (bandW .u64 y 4294967295)) (shrW .u64 (mulW .u64 (bandW .u64 x 4294967295) (bandW .u64 y 4294967295)) 32)) 4294967295) (mulW .u64 (bandW .u64 x 4294967295) (shrW .u64 y 32))) 32) = x * y / 18446744073709551616 := by
  have sh : ∀ a, shrW .u64 a 32 = a / 4294967296 := fun a => shr_val 32 4294967296 (by decide) (by omega)
  obtain ⟨p11, p10, p01, p00, e1, e2, e3, e4, e5, h1, h2, h3, h4⟩ := mul_parts hx hy
  simp only [sh, band_val hx, band_val hy, mulW, addW, e1, e2, e3, e4, wrapU64]
  have w1 : p11 % 18446744073709551616 = p11 := by omega
  have w2 : p10 % 18446744073709551616 = p10 := by omega
  have w3 : p01 % 18446744073709551616 = p01 := by omega
  have w4 : p00 % 18446744073709551616 = p00 := by omega
  have w5 : (p10 + p00 / 4294967296) % 18446744073709551616 = p10 + p00 / 4294967296 := by omega
  rw [w1, w2, w3, w4, w5, band_val (by unfold rU; omega), e5]
  omega
noncomputable def mulS : List AV → OV := fun args => match args with | [.int .u64 x, .int .u64 y] => some ([rU x, rU y], .tup [.int .u64 (hiM x y), .int .u64 (loM x y)]) | _ => none
theorem mul_eq (x y : Int) : acall tab fs_add64 specs_copiedS fns 100 20 41 [.int .u64 x, .int .u64 y] [] (fun o mm _ _ => resN (.any) mm o = .ret (.tup [.int .u64 (hiM x y), .int .u64 (loM x y)])) =
  (need (geZ 32) (need (geZ 32) (need (geZ 32) (need (geZ 32) (need (geZ 32) (AOut.ret (AV.tup (AV.int IntKind.u64 (addW IntKind.u64 (addW IntKind.u64 (mulW IntKind.u64
    (shrW IntKind.u64 x 32) (shrW IntKind.u64 y 32)) (shrW IntKind.u64 (addW IntKind.u64 (mulW IntKind.u64 (shrW IntKind.u64 x 32) (bandW IntKind.u64 y 4294967295))
    (shrW IntKind.u64 (mulW IntKind.u64 (bandW IntKind.u64 x 4294967295) (bandW IntKind.u64 y 4294967295)) 32)) 32)) (shrW IntKind.u64 (addW IntKind.u64 (bandW IntKind.u64
    (addW IntKind.u64 (mulW IntKind.u64 (shrW IntKind.u64 x 32) (bandW IntKind.u64 y 4294967295)) (shrW IntKind.u64 (mulW IntKind.u64 (bandW IntKind.u64 x 4294967295)
    (bandW IntKind.u64 y 4294967295)) 32)) 4294967295) (mulW IntKind.u64 (bandW IntKind.u64 x 4294967295) (shrW IntKind.u64 y 32))) 32)) :: AV.int IntKind.u64 (mulW
    IntKind.u64 x y) :: @List.nil AV)) = AOut.ret (AV.tup (AV.int IntKind.u64 (hiM x y) :: AV.int IntKind.u64 (loM x y) :: @List.nil AV)))))))) := by kernel_rfl
theorem mul_ok : SpecOK Try.prog 41 (fspecS (pureN [] mulS)) := pureN_ok (mkCall fsOK_add64 specsOK_copiedS fnsOK) (.any) (fun vs w => Try.call41 vs w) fun args ps v h hp hw => by
  unfold mulS at h
  split at h
  · cases h
    rename_i x y
    rw [mul_eq]
    refine ⟨?_⟩
    simp only [allP_cons, allP_nil, and_true] at hp
    simp only [wfAL, wfA, wfS, wfM, wfB, and_true, true_and, wfT_int, wfT_str, wfT_bool, wfT_prod] at hw
    rw [mul_hi hp.1 hp.2, mul_lo]
    simp only [need_def, geZ_def, hiM, loM]
    decide
  · cases h
noncomputable def FF_mul : FSpec := pureN [] mulS
theorem FFok_mul : SpecOK Try.prog 41 (fspecS FF_mul) := mul_ok
noncomputable def fs_mul : FS := (41, FF_mul) :: fs_add64
theorem fsOK_mul : FSOK Try.prog fs_mul := fsOK_cons FFok_mul fsOK_add64
theorem car_val {x y c : Int} (hx : rU x) (hy : rU y) (hc : c01 c) : c01 (car3 x y c) := car_c01 hx hy hc
theorem has_rU {a : Int} (h : IntKind.u64.has a) : rU a := by have := hasU64r h; unfold rU; omega
theorem sv_rng {x : den SumT} (h : wfT SumT x) : rU x.1 ∧ rU x.2.1 ∧ rU x.2.2 := ⟨has_rU h.1, has_rU h.2.1, has_rU h.2.2⟩
theorem w_mod {x y : Int} (h : (x - y) % 6277101735386680763835789423207666416102355444464034512896 = 0) : w0 x = w0 y ∧ w1 x = w1 y ∧ w2 x = w2 y := by
  unfold w0 w1 w2; omega
abbrev X_plusL := List (den SumT) × Int × Int × Int × Int × Int
def sh_plusL : X_plusL → St := fun x => match x with | (l, len, i, a, b, c) => ⟨setL (rep .bad 33) [(8, .view [] SumT l), (9, .int .i64 len), (10, .int .i64 i), (2, .ptr 0 0), (3, .ptr 1 0)], [.var [.int .u64 0, .int .u64 0, .int .u64 0], .var [.int .u64 a, .int .u64 b, .int .u64 c]], [2], [1, 2]⟩
def sx_plusL : AExit → X_plusL → St := fun _ => sh_plusL
def nx_plusL (σ : St) : X_plusL := (gV SumT σ 8, gI σ 9, gI σ 10, cI σ 1 0, cI σ 1 1, cI σ 1 2)
def Pre_plusL : X_plusL → Prop := fun x => match x with | (l, len, i, a, b, c) => i = 0 ∧ len = lenI l ∧ a = 0 ∧ b = 0 ∧ c = 0
def E0_plusL : X_plusL → X_plusL → Prop := fun x y => match x, y with | (l0, len0, i0, a0, b0, c0), (l, len, i, a, b, c) => (l = l0 ∧ len = len0) ∧ (a = w0 (sumF l) ∧ b = w1 (sumF l) ∧ c = w2 (sumF l))
def R_plusL : X_plusL → X_plusL → Prop := fun x y => match x, y with | (l0, len0, i0, a0, b0, c0), (l, len, i, a, b, c) => (l = l0 ∧ len = len0) ∧ (False)
def D_plusL : X_plusL → LEnds X_plusL := fun x => ⟨[(0, E0_plusL x)], R_plusL x⟩
noncomputable def S_plusL : Summ := summN sh_plusL sx_plusL nx_plusL Pre_plusL D_plusL
def Inv_plusL : X_plusL → X_plusL → Prop := fun x y => match x, y with | (l0, len0, i0, a0, b0, c0), (l, len, i, a, b, c) => (l = l0 ∧ len = len0) ∧ ((0 ≤ i ∧ i ≤ len) ∧ (rU a ∧ rU b ∧ rU c) ∧ ((a + b * 18446744073709551616 + c * 340282366920938463463374607431768211456 + sumS (l.drop i.toNat)) - sumF l) % 6277101735386680763835789423207666416102355444464034512896 = 0)
def M_plusL : X_plusL → X_plusL → Nat := fun x y => match x, y with | (l0, len0, i0, a0, b0, c0), (l, len, i, a, b, c) => (len - i).toNat
theorem body_plusL (Inv : X_plusL → Prop) (meas : X_plusL → Nat) (nn : Nat) (EE0 RR : X_plusL → Prop) (l : List (den SumT)) (len : Int) (i : Int) (a : Int) (b : Int) (c : Int) : awp tab fs_mul (acall tab fs_mul specs_copiedS fns 100 20) [] 100 (loopAt Try.f25 3) (bodyN sh_plusL sx_plusL nx_plusL Inv meas nn ⟨[(0, EE0)], RR⟩) (sh_plusL (l, len, i, a, b, c)) =
  (ifB (ltB i len) (need (inI i (lenI l)) (need (inI 0 3) (need (inI 0 3) (eqI 0 0 (eqI 0 0 (need (inI 0 3) (eqI a a (eqI 0 0 (need (inI 0 3) (eqI (nth SumT l i).fst
    (nth SumT l i).fst (eqI 0 0 (need (c01 0) (need (inI 0 3) (eqI 0 0 (eqI 0 0 (need (inI 0 3) (eqI 0 0 (need (inI 0 3) (eqI (sum3 a (nth SumT l i).fst 0) (sum3 a (nth
    SumT l i).fst 0) (eqI (car3 a (nth SumT l i).fst 0) (car3 a (nth SumT l i).fst 0) (eqI (sum3 a (nth SumT l i).fst 0) (sum3 a (nth SumT l i).fst 0) (eqI (car3 a (nth
    SumT l i).fst 0) (car3 a (nth SumT l i).fst 0) (need (inI 0 3) (eqI (car3 a (nth SumT l i).fst 0) (car3 a (nth SumT l i).fst 0) (need (inI 1 3) (need (inI 1 3) (eqI
    1 1 (eqI 1 1 (need (inI 1 3) (eqI b b (eqI 1 1 (need (inI 1 3) (eqI (nth SumT l i).snd.fst (nth SumT l i).snd.fst (eqI (car3 a (nth SumT l i).fst 0) (car3 a (nth
    SumT l i).fst 0) (need (c01 (car3 a (nth SumT l i).fst 0)) (need (inI 1 3) (eqI 1 1 (eqI 1 1 (need (inI 1 3) (eqI 1 1 (need (inI 1 3) (eqI (sum3 b (nth SumT l i).snd.fst
    (car3 a (nth SumT l i).fst 0)) (sum3 b (nth SumT l i).snd.fst (car3 a (nth SumT l i).fst 0)) (eqI (car3 b (nth SumT l i).snd.fst (car3 a (nth SumT l i).fst 0)) (car3
    b (nth SumT l i).snd.fst (car3 a (nth SumT l i).fst 0)) (eqI (sum3 b (nth SumT l i).snd.fst (car3 a (nth SumT l i).fst 0)) (sum3 b (nth SumT l i).snd.fst (car3 a
    (nth SumT l i).fst 0)) (eqI (car3 b (nth SumT l i).snd.fst (car3 a (nth SumT l i).fst 0)) (car3 b (nth SumT l i).snd.fst (car3 a (nth SumT l i).fst 0)) (need (inI
    1 3) (eqI (car3 b (nth SumT l i).snd.fst (car3 a (nth SumT l i).fst 0)) (car3 b (nth SumT l i).snd.fst (car3 a (nth SumT l i).fst 0)) (need (inI 2 3) (need (inI
    2 3) (eqI 2 2 (eqI 2 2 (need (inI 2 3) (eqI c c (eqI 2 2 (need (inI 2 3) (eqI (nth SumT l i).snd.snd (nth SumT l i).snd.snd (eqI (car3 b (nth SumT l i).snd.fst (car3
    a (nth SumT l i).fst 0)) (car3 b (nth SumT l i).snd.fst (car3 a (nth SumT l i).fst 0)) (need (c01 (car3 b (nth SumT l i).snd.fst (car3 a (nth SumT l i).fst 0)))
    (need (inI 2 3) (eqI 2 2 (eqI 2 2 (need (inI 2 3) (eqI 2 2 (need (inI 2 3) (eqI (sum3 c (nth SumT l i).snd.snd (car3 b (nth SumT l i).snd.fst (car3 a (nth SumT l
    i).fst 0))) (sum3 c (nth SumT l i).snd.snd (car3 b (nth SumT l i).snd.fst (car3 a (nth SumT l i).fst 0))) (eqI (car3 c (nth SumT l i).snd.snd (car3 b (nth SumT l
    i).snd.fst (car3 a (nth SumT l i).fst 0))) (car3 c (nth SumT l i).snd.snd (car3 b (nth SumT l i).snd.fst (car3 a (nth SumT l i).fst 0))) (eqI (sum3 c (nth SumT l
    i).snd.snd (car3 b (nth SumT l i).snd.fst (car3 a (nth SumT l i).fst 0))) (sum3 c (nth SumT l i).snd.snd (car3 b (nth SumT l i).snd.fst (car3 a (nth SumT l i).fst
    0))) (eqI (car3 c (nth SumT l i).snd.snd (car3 b (nth SumT l i).snd.fst (car3 a (nth SumT l i).fst 0))) (car3 c (nth SumT l i).snd.snd (car3 b (nth SumT l i).snd.fst
    (car3 a (nth SumT l i).fst 0))) (need (inI 2 3) (eqI (car3 c (nth SumT l i).snd.snd (car3 b (nth SumT l i).snd.fst (car3 a (nth SumT l i).fst 0))) (car3 c (nth SumT
    l i).snd.snd (car3 b (nth SumT l i).snd.fst (car3 a (nth SumT l i).fst 0))) (eqD l l (eqI len len (eqI (addW IntKind.i64 i 1) (addW IntKind.i64 i 1) (eqI 0 0 (eqI
    0 0 (eqI 0 0 (eqI (sum3 a (nth SumT l i).fst 0) (sum3 a (nth SumT l i).fst 0) (eqI (sum3 b (nth SumT l i).snd.fst (car3 a (nth SumT l i).fst 0)) (sum3 b (nth SumT
    l i).snd.fst (car3 a (nth SumT l i).fst 0)) (eqI (sum3 c (nth SumT l i).snd.snd (car3 b (nth SumT l i).snd.fst (car3 a (nth SumT l i).fst 0))) (sum3 c (nth SumT
    l i).snd.snd (car3 b (nth SumT l i).snd.fst (car3 a (nth SumT l i).fst 0))) (Inv (l, len, addW IntKind.i64 i 1, sum3 a (nth SumT l i).fst 0, sum3 b (nth SumT l i).snd.fst
    (car3 a (nth SumT l i).fst 0), sum3 c (nth SumT l i).snd.snd (car3 b (nth SumT l i).snd.fst (car3 a (nth SumT l i).fst 0))) ∧ meas (l, len, addW IntKind.i64 i 1,
    sum3 a (nth SumT l i).fst 0, sum3 b (nth SumT l i).snd.fst (car3 a (nth SumT l i).fst 0), sum3 c (nth SumT l i).snd.snd (car3 b (nth SumT l i).snd.fst (car3 a (nth
    SumT l i).fst 0))) < nn)))))))))))))))))))))))))))))))))))))))))))))))))))))))))))))))))))))))))))))))) (eqD l l (eqI len len (eqI i i (eqI 0 0 (eqI 0 0 (eqI 0 0
    (eqI a a (eqI b b (eqI c c (EE0 (l, len, i, a, b, c)))))))))))) := by kernel_rfl
theorem body_plusL_ok : ∀ x y, Pre_plusL x → Inv_plusL x y → wfS (sh_plusL y) → Hd (awp tab fs_mul (acall tab fs_mul specs_copiedS fns 100 20) [] 100 (loopAt Try.f25 3) (bodyN sh_plusL sx_plusL nx_plusL (Inv_plusL x) (M_plusL x) (M_plusL x y) (D_plusL x)) (sh_plusL y)) := by
  rintro ⟨l0, len0, i0, a0, b0, c0⟩ ⟨l, len, i, a, b, c⟩ hp hI hw
  obtain ⟨⟨rfl, rfl⟩, hI⟩ := hI
  have hw_l := wfL_view hw 8 rfl
  have hw_len := wfL_int hw 9 rfl
  have hw_i := wfL_int hw 10 rfl
  have hw_a := wfC_int hw 1 0 rfl
  have hw_b := wfC_int hw 1 1 rfl
  have hw_c := wfC_int hw 1 2 rfl
  have hp : i0 = 0 ∧ len = lenI l ∧ a0 = 0 ∧ b0 = 0 ∧ c0 = 0 := hp
  unfold D_plusL
  rw [body_plusL]
  refine ⟨?_⟩
  have hInv : ∀ (i : Int) (a : Int) (b : Int) (c : Int), ((0 ≤ i ∧ i ≤ len) ∧ (rU a ∧ rU b ∧ rU c) ∧ ((a + b * 18446744073709551616 + c * 340282366920938463463374607431768211456 + sumS (l.drop i.toNat)) - sumF l) % 6277101735386680763835789423207666416102355444464034512896 = 0) → Inv_plusL (l, len, i0, a0, b0, c0) (l, len, i, a, b, c) := fun _ _ _ _ h => ⟨⟨rfl, rfl⟩, h⟩
  generalize hIe : Inv_plusL (l, len, i0, a0, b0, c0) = Inv at hInv ⊢
  have hMe : ∀ (i : Int) (a : Int) (b : Int) (c : Int), M_plusL (l, len, i0, a0, b0, c0) (l, len, i, a, b, c) = (len - i).toNat := fun _ _ _ _ => rfl
  generalize M_plusL (l, len, i0, a0, b0, c0) = Me at hMe ⊢
  have hE0 : ∀ (i : Int) (a : Int) (b : Int) (c : Int), (a = w0 (sumF l) ∧ b = w1 (sumF l) ∧ c = w2 (sumF l)) → E0_plusL (l, len, i0, a0, b0, c0) (l, len, i, a, b, c) := fun _ _ _ _ h => ⟨⟨rfl, rfl⟩, h⟩
  generalize E0_plusL (l, len, i0, a0, b0, c0) = EE0 at hE0 ⊢
  have hR : ∀ (i : Int) (a : Int) (b : Int) (c : Int), (False) → R_plusL (l, len, i0, a0, b0, c0) (l, len, i, a, b, c) := fun _ _ _ _ h => ⟨⟨rfl, rfl⟩, h⟩
  generalize R_plusL (l, len, i0, a0, b0, c0) = RR at hR ⊢
  obtain ⟨hi, ⟨ha, hb, hc⟩, hI⟩ := hI
  obtain ⟨p1, rfl, p3⟩ := hp
  by_cases hlt : i < lenI l
  · rw [drop_nth (t := SumT) hi.1 hlt] at hI
    have hlen := wfT_len hw_l
    have ei : addW .i64 i 1 = i + 1 := addW64 (by omega) (by omega)
    have hx := sv_rng (wfT_nth hw_l hi.1 hlt)
    obtain ⟨x0, x1, x2, hx0⟩ : ∃ (q0 q1 q2 : Int), nth SumT l i = (q0, q1, q2) := ⟨_, _, _, rfl⟩
    rw [ltB_t.2 hlt]
    simp only [sumS, sv, hx0] at hI hx ⊢
    obtain ⟨u0, u1, u2⟩ := hx
    have d0 : c01 0 := .inl rfl
    have d1 := car_c01 ha u0 d0
    have d2 := car_c01 hb u1 d1
    simp only [simpsL, implies_true, forall_const, if_true, if_false, reduceCtorEq, hMe, ei, d0, d1, d2]
    have hfin := hInv (i + 1) (sum3 a x0 0) (sum3 b x1 (car3 a x0 0)) (sum3 c x2 (car3 b x1 (car3 a x0 0))) ⟨by omega, by unfold sum3 rU; omega, by
      unfold sum3 car3 rU at *
      generalize sumS (l.drop (i + 1).toNat) = S at hI ⊢
      generalize sumF l = T at hI ⊢
      omega⟩
    repeat' (first | with_reducible rfl | assumption | omega | trivial | refine ⟨?_, ?_⟩ | intro _)
  · rw [drop_all (by omega)] at hI
    rw [ltB_f.2 (Int.not_lt.1 hlt)]
    simp only [simpsL, implies_true, forall_const, if_true, if_false, reduceCtorEq]
    simp only [sumS] at hI
    refine hE0 _ _ _ _ ?_
    unfold rU at ha hb hc
    unfold w0 w1 w2
    generalize sumF l = T at hI ⊢
    omega
theorem summ_plusL : SummOK Try.prog (loopAt Try.f25 3) S_plusL :=
  summN_ok (L := []) (fuel := 100) tabOK fsOK_mul (mkCall fsOK_mul specsOK_copiedS fnsOK) (fun C => mkDraw fsOK_mul (mkCall fsOK_mul specsOK_copiedS fnsOK) C) loopsOK_nil Inv_plusL M_plusL
    (fun x hp hw => by
      obtain ⟨l, len, i, a, b, c⟩ := x
      have hp : i = 0 ∧ len = lenI l ∧ a = 0 ∧ b = 0 ∧ c = 0 := hp
      have hw_l := wfL_view hw 8 rfl
      have hw_len := wfL_int hw 9 rfl
      have hw_i := wfL_int hw 10 rfl
      have hw_a := wfC_int hw 1 0 rfl
      have hw_b := wfC_int hw 1 1 rfl
      have hw_c := wfC_int hw 1 2 rfl
      obtain ⟨rfl, rfl, rfl, rfl, rfl⟩ := hp
      refine ⟨⟨rfl, rfl⟩, ⟨by omega, lenI_nn _⟩, by unfold rU; omega, ?_⟩
      show (0 + 0 * _ + 0 * _ + sumS l - sumS l) % _ = 0
      omega)
    (body_plusL_ok)
noncomputable def fns_plus : Fns := (25, Try.f25, [(3, S_plusL)]) :: fns
theorem fn_plus : FnOK Try.prog 25 Try.f25 [(3, S_plusL)] := fnOK_loops Try.func25 (fun vs w => Try.call25 vs w) (by kernel_rfl) fun k S h => by
  simp only [List.mem_cons, Prod.mk.injEq, List.not_mem_nil, or_false] at h
  obtain ⟨rfl, rfl⟩ := h
  exact summ_plusL
theorem fns_plusOK : FnsOK Try.prog fns_plus := fnsOK_cons fn_plus fnsOK
noncomputable def plusS : List AV → OV := fun args => match args with | [.view [] (.prod (.int .u64) (.prod (.int .u64) (.int .u64))) l] => some ([], .agg [.int .u64 (w0 (sumF l)), .int .u64 (w1 (sumF l)), .int .u64 (w2 (sumF l))]) | _ => none
theorem plus_eq (l : List (den SumT)) : acall tab fs_mul specs_copiedS fns_plus 100 20 25 [.view [] SumT l] [] (fun o mm _ _ => resN (.any) mm o = .ret (.agg [.int .u64 (w0 (sumF l)), .int .u64 (w1 (sumF l)), .int .u64 (w2 (sumF l))])) =
  (eqD l l (eqI (lenI l) (lenI l) (eqI 0 0 (eqI 0 0 (eqI 0 0 (eqI 0 0 (eqI 0 0 (eqI 0 0 (eqI 0 0 (((0 : Int) = 0 ∧ lenI l = lenI l ∧ (0 : Int) = 0 ∧ (0 : Int) = 0 ∧
    (0 : Int) = 0) ∧ ((∀ (y : X_plusL), (y.1 = l ∧ y.2.1 = lenI l) ∧ y.2.2.2.1 = w0 (sumF y.1) ∧ y.2.2.2.2.1 = w1 (sumF y.1) ∧ y.2.2.2.2.2 = w2 (sumF y.1) → AOut.ret
    (AV.agg (AV.int IntKind.u64 y.2.2.2.1 :: AV.int IntKind.u64 y.2.2.2.2.1 :: AV.int IntKind.u64 y.2.2.2.2.2 :: @List.nil AV)) = AOut.ret (AV.agg (AV.int IntKind.u64
    (w0 (sumF l)) :: AV.int IntKind.u64 (w1 (sumF l)) :: AV.int IntKind.u64 (w2 (sumF l)) :: @List.nil AV))) ∧ True) ∧ ∀ (y : X_plusL), (y.1 = l ∧ y.2.1 = lenI l) ∧
    False → AOut.ret (AV.agg (AV.int IntKind.u64 0 :: AV.int IntKind.u64 0 :: AV.int IntKind.u64 0 :: @List.nil AV)) = AOut.ret (AV.agg (AV.int IntKind.u64 (w0 (sumF
    l)) :: AV.int IntKind.u64 (w1 (sumF l)) :: AV.int IntKind.u64 (w2 (sumF l)) :: @List.nil AV)))))))))))) := by kernel_rfl
theorem plus_ok : SpecOK Try.prog 25 (fspecS (pureN [.sl SumT] plusS)) := pureN_ok (mkCall fsOK_mul specsOK_copiedS fns_plusOK) (.any) (fun vs w => Try.call25 vs w) fun args ps v h hp hw => by
  unfold plusS at h
  split at h
  · cases h
    rename_i l
    rw [plus_eq]
    refine ⟨?_⟩
    simp only [allP_cons, allP_nil, and_true] at hp
    simp only [wfAL, wfA, wfS, wfM, wfB, and_true, true_and, wfT_int, wfT_str, wfT_bool, wfT_prod] at hw
    simp only [simpsL, implies_true, forall_const, if_true, if_false, reduceCtorEq]
    repeat' (first | with_reducible rfl | assumption | omega | trivial | (rintro ⟨l', len', i', a', b', c'⟩ ⟨hk, hx⟩; dsimp only at hk hx ⊢; obtain ⟨rfl, rfl⟩ := hk; obtain ⟨rfl, rfl, rfl⟩ := hx; rfl) | refine ⟨?_, ?_⟩ | intro _)
  · cases h
noncomputable def FF_plus : FSpec := pureN [.sl SumT] plusS
theorem FFok_plus : SpecOK Try.prog 25 (fspecS FF_plus) := plus_ok
noncomputable def fs_plus : FS := (25, FF_plus) :: fs_mul
theorem fsOK_plus : FSOK Try.prog fs_plus := fsOK_cons FFok_plus fsOK_mul
end Go.Proofs.Ytmdjpohmbkodeaa.Sx

