/- The product. -/
import Derived.Test.YtmdjpohmbkodeaaSmTraceM
namespace Go.Proofs.Ytmdjpohmbkodeaa.Sx
open Go.RowKit
set_option maxRecDepth 100000
set_option maxHeartbeats 4000000
set_option linter.unusedVariables false
set_option linter.unusedSimpArgs false
def accK (i a0 a1 a2 b0 b1 b2 : Int) : Int := if i = 0 then 0 else if i = 1 then midK 0 a0 a1 a2 b0 b1 b2 else if i = 2 then midK 0 a0 a1 a2 b0 b1 b2 + midK 1 a0 a1 a2 b0 b1 b2 else midK 0 a0 a1 a2 b0 b1 b2 + midK 1 a0 a1 a2 b0 b1 b2 + midK 2 a0 a1 a2 b0 b1 b2
theorem mul_le {a b : Int} (ha : 0 ≤ a ∧ a < 4294967296) (hb : 0 ≤ b ∧ b < 4294967296) : 0 ≤ a * b ∧ a * b ≤ 18446744065119617025 := by
  have p1 := Int.mul_nonneg ha.1 hb.1
  have p2 : a * b ≤ 4294967295 * b := Int.mul_le_mul_of_nonneg_right (by omega) hb.1
  omega
theorem acc_step {i a0 a1 a2 b0 b1 b2 : Int} (h0 : 0 ≤ i) (h1 : i < 3) : accK (i + 1) a0 a1 a2 b0 b1 b2 = accK i a0 a1 a2 b0 b1 b2 + midK i a0 a1 a2 b0 b1 b2 := by
  have : i = 0 ∨ i = 1 ∨ i = 2 := by omega
  rcases this with rfl | rfl | rfl <;> simp [accK]
theorem acc_fits {i a0 a1 a2 b0 b1 b2 : Int} (x0 : dgt1 a0) (x1 : dgt1 a1) (x2 : dgt1 a2) (y0 : dgt1 b0) (y1 : dgt1 b1) (y2 : dgt1 b2) : accK i a0 a1 a2 b0 b1 b2 < 6277101735386680763835789423207666416102355444464034512896 := by
  have p00 := mul_le x0 y0
  have p01 := mul_le x0 y1
  have p02 := mul_le x0 y2
  have p10 := mul_le x1 y0
  have p11 := mul_le x1 y1
  have p12 := mul_le x1 y2
  have p20 := mul_le x2 y0
  have p21 := mul_le x2 y1
  have p22 := mul_le x2 y2
  have m0 : midK 0 a0 a1 a2 b0 b1 b2 = a0 * b0 + 4294967296 * (a0 * b1) + 18446744073709551616 * (a0 * b2) := rfl
  have m1 : midK 1 a0 a1 a2 b0 b1 b2 = 4294967296 * (a1 * b0) + 18446744073709551616 * (a1 * b1) + 79228162514264337593543950336 * (a1 * b2) := rfl
  have m2 : midK 2 a0 a1 a2 b0 b1 b2 = 18446744073709551616 * (a2 * b0) + 79228162514264337593543950336 * (a2 * b1) + 340282366920938463463374607431768211456 * (a2 * b2) := rfl
  unfold accK
  rw [m0, m1, m2]
  (repeat' split) <;> omega
abbrev X_muli := Int × Bool × Int × Int × Int × Int × Int × Int × Bool × Int × Int × Int × Int × Int × Int × Bool × Int × Int × Int × Int × Int × Int
def sh_muli : X_muli → St := fun x => match x with | (i, p, a0, a1, a2, a3, a4, a5, q, b0, b1, b2, b3, b4, b5, m, c0, c1, c2, c3, c4, c5) => ⟨setL (rep .bad 90) [(6, .int .i64 i), (2, .ptr 0 0), (3, .ptr 1 0), (4, .ptr 2 0), (5, .ptr 3 0)], [.var [.bool p, .int .i64 a0, .int .i64 a1, .int .i64 a2, .int .i64 a3, .int .i64 a4, .int .i64 a5], .var [.bool q, .int .i64 b0, .int .i64 b1, .int .i64 b2, .int .i64 b3, .int .i64 b4, .int .i64 b5], .var [.bool false, .int .i64 0, .int .i64 0, .int .i64 0, .int .i64 0, .int .i64 0, .int .i64 0], .var [.bool m, .int .i64 c0, .int .i64 c1, .int .i64 c2, .int .i64 c3, .int .i64 c4, .int .i64 c5]], [0, 1, 2, 3, 4, 5], [0, 1, 2, 3, 4, 5]⟩
def sx_muli : AExit → X_muli → St := fun _ => sh_muli
def nx_muli (σ : St) : X_muli := (gI σ 6, cB σ 0 0, cI σ 0 1, cI σ 0 2, cI σ 0 3, cI σ 0 4, cI σ 0 5, cI σ 0 6, cB σ 1 0, cI σ 1 1, cI σ 1 2, cI σ 1 3, cI σ 1 4, cI σ 1 5, cI σ 1 6, cB σ 3 0, cI σ 3 1, cI σ 3 2, cI σ 3 3, cI σ 3 4, cI σ 3 5, cI σ 3 6)
def Pre_muli : X_muli → Prop := fun x => match x with | (i, p, a0, a1, a2, a3, a4, a5, q, b0, b1, b2, b3, b4, b5, m, c0, c1, c2, c3, c4, c5) => i = 0 ∧ (dgt1 a0 ∧ dgt1 a1 ∧ dgt1 a2 ∧ dgt1 b0 ∧ dgt1 b1 ∧ dgt1 b2) ∧ dgtB c0 c1 c2 c3 c4 c5 ∧ magB c0 c1 c2 c3 c4 c5 = 0
def E0_muli : X_muli → X_muli → Prop := fun x y => match x, y with | (i0, p0, a00, a10, a20, a30, a40, a50, q0, b00, b10, b20, b30, b40, b50, m0, c00, c10, c20, c30, c40, c50), (i, p, a0, a1, a2, a3, a4, a5, q, b0, b1, b2, b3, b4, b5, m, c0, c1, c2, c3, c4, c5) => (p = p0 ∧ a0 = a00 ∧ a1 = a10 ∧ a2 = a20 ∧ a3 = a30 ∧ a4 = a40 ∧ a5 = a50 ∧ q = q0 ∧ b0 = b00 ∧ b1 = b10 ∧ b2 = b20 ∧ b3 = b30 ∧ b4 = b40 ∧ b5 = b50 ∧ m = m0) ∧ (dgtB c0 c1 c2 c3 c4 c5 ∧ magB c0 c1 c2 c3 c4 c5 = accK 3 a0 a1 a2 b0 b1 b2)
def R_muli : X_muli → X_muli → Prop := fun x y => match x, y with | (i0, p0, a00, a10, a20, a30, a40, a50, q0, b00, b10, b20, b30, b40, b50, m0, c00, c10, c20, c30, c40, c50), (i, p, a0, a1, a2, a3, a4, a5, q, b0, b1, b2, b3, b4, b5, m, c0, c1, c2, c3, c4, c5) => (p = p0 ∧ a0 = a00 ∧ a1 = a10 ∧ a2 = a20 ∧ a3 = a30 ∧ a4 = a40 ∧ a5 = a50 ∧ q = q0 ∧ b0 = b00 ∧ b1 = b10 ∧ b2 = b20 ∧ b3 = b30 ∧ b4 = b40 ∧ b5 = b50 ∧ m = m0) ∧ (False)
def D_muli : X_muli → LEnds X_muli := fun x => ⟨[(0, E0_muli x)], R_muli x⟩
noncomputable def S_muli : Summ := summN sh_muli sx_muli nx_muli Pre_muli D_muli
def Inv_muli : X_muli → X_muli → Prop := fun x y => match x, y with | (i0, p0, a00, a10, a20, a30, a40, a50, q0, b00, b10, b20, b30, b40, b50, m0, c00, c10, c20, c30, c40, c50), (i, p, a0, a1, a2, a3, a4, a5, q, b0, b1, b2, b3, b4, b5, m, c0, c1, c2, c3, c4, c5) => (p = p0 ∧ a0 = a00 ∧ a1 = a10 ∧ a2 = a20 ∧ a3 = a30 ∧ a4 = a40 ∧ a5 = a50 ∧ q = q0 ∧ b0 = b00 ∧ b1 = b10 ∧ b2 = b20 ∧ b3 = b30 ∧ b4 = b40 ∧ b5 = b50 ∧ m = m0) ∧ ((0 ≤ i ∧ i ≤ 3) ∧ dgtB c0 c1 c2 c3 c4 c5 ∧ magB c0 c1 c2 c3 c4 c5 = accK i a0 a1 a2 b0 b1 b2)
def M_muli : X_muli → X_muli → Nat := fun x y => match x, y with | (i0, p0, a00, a10, a20, a30, a40, a50, q0, b00, b10, b20, b30, b40, b50, m0, c00, c10, c20, c30, c40, c50), (i, p, a0, a1, a2, a3, a4, a5, q, b0, b1, b2, b3, b4, b5, m, c0, c1, c2, c3, c4, c5) => (3 - i).toNat
theorem body_muli (Inv : X_muli → Prop) (meas : X_muli → Nat) (nn : Nat) (EE0 RR : X_muli → Prop) (i : Int) (p : Bool) (a0 : Int) (a1 : Int) (a2 : Int) (a3 : Int) (a4 : Int) (a5 : Int) (q : Bool) (b0 : Int) (b1 : Int) (b2 : Int) (b3 : Int) (b4 : Int) (b5 : Int) (m : Bool) (c0 : Int) (c1 : Int) (c2 : Int) (c3 : Int) (c4 : Int) (c5 : Int) : awp tab fs_bcmp (acall tab fs_bcmp specs_halves fns 100 20) [(7, S_mulj), (13, S_carry)] 100 (loopAt Try.f28 3) (bodyN sh_muli sx_muli nx_muli Inv meas nn ⟨[(0, EE0)], RR⟩) (sh_muli (i, p, a0, a1, a2, a3, a4, a5, q, b0, b1, b2, b3, b4, b5, m, c0, c1, c2, c3, c4, c5)) =
  (ifB (ltB i 3) (eqIr i (eqIr 0 (eqIr 0 (eqLr p (eqIr a0 (eqIr a1 (eqIr a2 (eqIr a3 (eqIr a4 (eqIr a5 (eqLr q (eqIr b0 (eqIr b1 (eqIr b2 (eqIr b3 (eqIr b4 (eqIr b5
    (eqLr false (eqIr 0 (eqIr 0 (eqIr 0 (eqIr 0 (eqIr 0 (eqIr 0 (eqLr m (eqIr c0 (eqIr c1 (eqIr c2 (eqIr c3 (eqIr c4 (eqIr c5 (((i = 0 ∧ (0 : Int) = 0 ∧ (0 : Int) =
    0 ∨ i = 1 ∧ (0 : Int) = 0 ∧ (0 : Int) = 0 ∨ i = 2 ∧ (0 : Int) = 0 ∧ (0 : Int) = 0) ∧ dgtB c0 c1 c2 c3 c4 c5 ∧ dgt1 a0 ∧ dgt1 a1 ∧ dgt1 a2 ∧ dgt1 b0 ∧ dgt1 b1 ∧ dgt1
    b2) ∧ ((∀ (y : X_mulj), (y.1 = i ∧ y.2.2.2.1 = p ∧ y.2.2.2.2.1 = a0 ∧ y.2.2.2.2.2.1 = a1 ∧ y.2.2.2.2.2.2.1 = a2 ∧ y.2.2.2.2.2.2.2.1 = a3 ∧ y.2.2.2.2.2.2.2.2.1 =
    a4 ∧ y.2.2.2.2.2.2.2.2.2.1 = a5 ∧ y.2.2.2.2.2.2.2.2.2.2.1 = q ∧ y.2.2.2.2.2.2.2.2.2.2.2.1 = b0 ∧ y.2.2.2.2.2.2.2.2.2.2.2.2.1 = b1 ∧ y.2.2.2.2.2.2.2.2.2.2.2.2.2.1
    = b2 ∧ y.2.2.2.2.2.2.2.2.2.2.2.2.2.2.1 = b3 ∧ y.2.2.2.2.2.2.2.2.2.2.2.2.2.2.2.1 = b4 ∧ y.2.2.2.2.2.2.2.2.2.2.2.2.2.2.2.2.1 = b5 ∧ y.2.2.2.2.2.2.2.2.2.2.2.2.2.2.2.2.2.1
    = m) ∧ dgtB y.2.2.2.2.2.2.2.2.2.2.2.2.2.2.2.2.2.2.1 y.2.2.2.2.2.2.2.2.2.2.2.2.2.2.2.2.2.2.2.1 y.2.2.2.2.2.2.2.2.2.2.2.2.2.2.2.2.2.2.2.2.1 y.2.2.2.2.2.2.2.2.2.2.2.2.2.2.2.2.2.2.2.2.2.1
    y.2.2.2.2.2.2.2.2.2.2.2.2.2.2.2.2.2.2.2.2.2.2.1 y.2.2.2.2.2.2.2.2.2.2.2.2.2.2.2.2.2.2.2.2.2.2.2 ∧ dgt1 y.2.1 ∧ magB y.2.2.2.2.2.2.2.2.2.2.2.2.2.2.2.2.2.2.1 y.2.2.2.2.2.2.2.2.2.2.2.2.2.2.2.2.2.2.2.1
    y.2.2.2.2.2.2.2.2.2.2.2.2.2.2.2.2.2.2.2.2.1 y.2.2.2.2.2.2.2.2.2.2.2.2.2.2.2.2.2.2.2.2.2.1 y.2.2.2.2.2.2.2.2.2.2.2.2.2.2.2.2.2.2.2.2.2.2.1 y.2.2.2.2.2.2.2.2.2.2.2.2.2.2.2.2.2.2.2.2.2.2.2
    + upK i y.2.1 = magB c0 c1 c2 c3 c4 c5 + midK i a0 a1 a2 b0 b1 b2 → eqIr y.1 (eqIr y.2.1 (eqIr (addW IntKind.i64 y.1 3) (eqLr y.2.2.2.1 (eqIr y.2.2.2.2.1 (eqIr y.2.2.2.2.2.1
    (eqIr y.2.2.2.2.2.2.1 (eqIr y.2.2.2.2.2.2.2.1 (eqIr y.2.2.2.2.2.2.2.2.1 (eqIr y.2.2.2.2.2.2.2.2.2.1 (eqLr y.2.2.2.2.2.2.2.2.2.2.1 (eqIr y.2.2.2.2.2.2.2.2.2.2.2.1
    (eqIr y.2.2.2.2.2.2.2.2.2.2.2.2.1 (eqIr y.2.2.2.2.2.2.2.2.2.2.2.2.2.1 (eqIr y.2.2.2.2.2.2.2.2.2.2.2.2.2.2.1 (eqIr y.2.2.2.2.2.2.2.2.2.2.2.2.2.2.2.1 (eqIr y.2.2.2.2.2.2.2.2.2.2.2.2.2.2.2.2.1
    (eqLr false (eqIr 0 (eqIr 0 (eqIr 0 (eqIr 0 (eqIr 0 (eqIr 0 (eqLr y.2.2.2.2.2.2.2.2.2.2.2.2.2.2.2.2.2.1 (eqIr y.2.2.2.2.2.2.2.2.2.2.2.2.2.2.2.2.2.2.1 (eqIr y.2.2.2.2.2.2.2.2.2.2.2.2.2.2.2.2.2.2.2.1
    (eqIr y.2.2.2.2.2.2.2.2.2.2.2.2.2.2.2.2.2.2.2.2.1 (eqIr y.2.2.2.2.2.2.2.2.2.2.2.2.2.2.2.2.2.2.2.2.2.1 (eqIr y.2.2.2.2.2.2.2.2.2.2.2.2.2.2.2.2.2.2.2.2.2.2.1 (eqIr
    y.2.2.2.2.2.2.2.2.2.2.2.2.2.2.2.2.2.2.2.2.2.2.2 (((y.1 = 0 ∧ addW IntKind.i64 y.1 (3 : Int) = 3 ∨ y.1 = 1 ∧ addW IntKind.i64 y.1 (3 : Int) = 4 ∨ y.1 = 2 ∧ addW IntKind.i64
    y.1 (3 : Int) = 5) ∧ dgtB y.2.2.2.2.2.2.2.2.2.2.2.2.2.2.2.2.2.2.1 y.2.2.2.2.2.2.2.2.2.2.2.2.2.2.2.2.2.2.2.1 y.2.2.2.2.2.2.2.2.2.2.2.2.2.2.2.2.2.2.2.2.1 y.2.2.2.2.2.2.2.2.2.2.2.2.2.2.2.2.2.2.2.2.2.1
    y.2.2.2.2.2.2.2.2.2.2.2.2.2.2.2.2.2.2.2.2.2.2.1 y.2.2.2.2.2.2.2.2.2.2.2.2.2.2.2.2.2.2.2.2.2.2.2 ∧ dgt1 y.2.1 ∧ fitsB (magB y.2.2.2.2.2.2.2.2.2.2.2.2.2.2.2.2.2.2.1
    y.2.2.2.2.2.2.2.2.2.2.2.2.2.2.2.2.2.2.2.1 y.2.2.2.2.2.2.2.2.2.2.2.2.2.2.2.2.2.2.2.2.1 y.2.2.2.2.2.2.2.2.2.2.2.2.2.2.2.2.2.2.2.2.2.1 y.2.2.2.2.2.2.2.2.2.2.2.2.2.2.2.2.2.2.2.2.2.2.1
    y.2.2.2.2.2.2.2.2.2.2.2.2.2.2.2.2.2.2.2.2.2.2.2) (upK y.1 y.2.1)) ∧ ((∀ (y_1 : X_carry), (y_1.1 = y.1 ∧ y_1.2.2.2.1 = y.2.2.2.1 ∧ y_1.2.2.2.2.1 = y.2.2.2.2.1 ∧ y_1.2.2.2.2.2.1
    = y.2.2.2.2.2.1 ∧ y_1.2.2.2.2.2.2.1 = y.2.2.2.2.2.2.1 ∧ y_1.2.2.2.2.2.2.2.1 = y.2.2.2.2.2.2.2.1 ∧ y_1.2.2.2.2.2.2.2.2.1 = y.2.2.2.2.2.2.2.2.1 ∧ y_1.2.2.2.2.2.2.2.2.2.1
    = y.2.2.2.2.2.2.2.2.2.1 ∧ y_1.2.2.2.2.2.2.2.2.2.2.1 = y.2.2.2.2.2.2.2.2.2.2.1 ∧ y_1.2.2.2.2.2.2.2.2.2.2.2.1 = y.2.2.2.2.2.2.2.2.2.2.2.1 ∧ y_1.2.2.2.2.2.2.2.2.2.2.2.2.1
    = y.2.2.2.2.2.2.2.2.2.2.2.2.1 ∧ y_1.2.2.2.2.2.2.2.2.2.2.2.2.2.1 = y.2.2.2.2.2.2.2.2.2.2.2.2.2.1 ∧ y_1.2.2.2.2.2.2.2.2.2.2.2.2.2.2.1 = y.2.2.2.2.2.2.2.2.2.2.2.2.2.2.1
    ∧ y_1.2.2.2.2.2.2.2.2.2.2.2.2.2.2.2.1 = y.2.2.2.2.2.2.2.2.2.2.2.2.2.2.2.1 ∧ y_1.2.2.2.2.2.2.2.2.2.2.2.2.2.2.2.2.1 = y.2.2.2.2.2.2.2.2.2.2.2.2.2.2.2.2.1 ∧ y_1.2.2.2.2.2.2.2.2.2.2.2.2.2.2.2.2.2.1
    = y.2.2.2.2.2.2.2.2.2.2.2.2.2.2.2.2.2.1) ∧ dgtB y_1.2.2.2.2.2.2.2.2.2.2.2.2.2.2.2.2.2.2.1 y_1.2.2.2.2.2.2.2.2.2.2.2.2.2.2.2.2.2.2.2.1 y_1.2.2.2.2.2.2.2.2.2.2.2.2.2.2.2.2.2.2.2.2.1
    y_1.2.2.2.2.2.2.2.2.2.2.2.2.2.2.2.2.2.2.2.2.2.1 y_1.2.2.2.2.2.2.2.2.2.2.2.2.2.2.2.2.2.2.2.2.2.2.1 y_1.2.2.2.2.2.2.2.2.2.2.2.2.2.2.2.2.2.2.2.2.2.2.2 ∧ magB y_1.2.2.2.2.2.2.2.2.2.2.2.2.2.2.2.2.2.2.1
    y_1.2.2.2.2.2.2.2.2.2.2.2.2.2.2.2.2.2.2.2.1 y_1.2.2.2.2.2.2.2.2.2.2.2.2.2.2.2.2.2.2.2.2.1 y_1.2.2.2.2.2.2.2.2.2.2.2.2.2.2.2.2.2.2.2.2.2.1 y_1.2.2.2.2.2.2.2.2.2.2.2.2.2.2.2.2.2.2.2.2.2.2.1
    y_1.2.2.2.2.2.2.2.2.2.2.2.2.2.2.2.2.2.2.2.2.2.2.2 = magB y.2.2.2.2.2.2.2.2.2.2.2.2.2.2.2.2.2.2.1 y.2.2.2.2.2.2.2.2.2.2.2.2.2.2.2.2.2.2.2.1 y.2.2.2.2.2.2.2.2.2.2.2.2.2.2.2.2.2.2.2.2.1
    y.2.2.2.2.2.2.2.2.2.2.2.2.2.2.2.2.2.2.2.2.2.1 y.2.2.2.2.2.2.2.2.2.2.2.2.2.2.2.2.2.2.2.2.2.2.1 y.2.2.2.2.2.2.2.2.2.2.2.2.2.2.2.2.2.2.2.2.2.2.2 + upK y.1 y.2.1 → eqIr
    (addW IntKind.i64 y_1.1 1) (eqLr y_1.2.2.2.1 (eqIr y_1.2.2.2.2.1 (eqIr y_1.2.2.2.2.2.1 (eqIr y_1.2.2.2.2.2.2.1 (eqIr y_1.2.2.2.2.2.2.2.1 (eqIr y_1.2.2.2.2.2.2.2.2.1
    (eqIr y_1.2.2.2.2.2.2.2.2.2.1 (eqLr y_1.2.2.2.2.2.2.2.2.2.2.1 (eqIr y_1.2.2.2.2.2.2.2.2.2.2.2.1 (eqIr y_1.2.2.2.2.2.2.2.2.2.2.2.2.1 (eqIr y_1.2.2.2.2.2.2.2.2.2.2.2.2.2.1
    (eqIr y_1.2.2.2.2.2.2.2.2.2.2.2.2.2.2.1 (eqIr y_1.2.2.2.2.2.2.2.2.2.2.2.2.2.2.2.1 (eqIr y_1.2.2.2.2.2.2.2.2.2.2.2.2.2.2.2.2.1 (eqLr false (eqIr 0 (eqIr 0 (eqIr 0
    (eqIr 0 (eqIr 0 (eqIr 0 (eqLr y_1.2.2.2.2.2.2.2.2.2.2.2.2.2.2.2.2.2.1 (eqIr y_1.2.2.2.2.2.2.2.2.2.2.2.2.2.2.2.2.2.2.1 (eqIr y_1.2.2.2.2.2.2.2.2.2.2.2.2.2.2.2.2.2.2.2.1
    (eqIr y_1.2.2.2.2.2.2.2.2.2.2.2.2.2.2.2.2.2.2.2.2.1 (eqIr y_1.2.2.2.2.2.2.2.2.2.2.2.2.2.2.2.2.2.2.2.2.2.1 (eqIr y_1.2.2.2.2.2.2.2.2.2.2.2.2.2.2.2.2.2.2.2.2.2.2.1
    (eqIr y_1.2.2.2.2.2.2.2.2.2.2.2.2.2.2.2.2.2.2.2.2.2.2.2 (Inv (addW IntKind.i64 y_1.1 1, y_1.2.2.2.1, y_1.2.2.2.2.1, y_1.2.2.2.2.2.1, y_1.2.2.2.2.2.2.1, y_1.2.2.2.2.2.2.2.1,
    y_1.2.2.2.2.2.2.2.2.1, y_1.2.2.2.2.2.2.2.2.2.1, y_1.2.2.2.2.2.2.2.2.2.2.1, y_1.2.2.2.2.2.2.2.2.2.2.2.1, y_1.2.2.2.2.2.2.2.2.2.2.2.2.1, y_1.2.2.2.2.2.2.2.2.2.2.2.2.2.1,
    y_1.2.2.2.2.2.2.2.2.2.2.2.2.2.2.1, y_1.2.2.2.2.2.2.2.2.2.2.2.2.2.2.2.1, y_1.2.2.2.2.2.2.2.2.2.2.2.2.2.2.2.2.1, y_1.2.2.2.2.2.2.2.2.2.2.2.2.2.2.2.2.2.1, y_1.2.2.2.2.2.2.2.2.2.2.2.2.2.2.2.2.2.2.1,
    y_1.2.2.2.2.2.2.2.2.2.2.2.2.2.2.2.2.2.2.2.1, y_1.2.2.2.2.2.2.2.2.2.2.2.2.2.2.2.2.2.2.2.2.1, y_1.2.2.2.2.2.2.2.2.2.2.2.2.2.2.2.2.2.2.2.2.2.1, y_1.2.2.2.2.2.2.2.2.2.2.2.2.2.2.2.2.2.2.2.2.2.2.1,
    y_1.2.2.2.2.2.2.2.2.2.2.2.2.2.2.2.2.2.2.2.2.2.2.2) ∧ meas (addW IntKind.i64 y_1.1 1, y_1.2.2.2.1, y_1.2.2.2.2.1, y_1.2.2.2.2.2.1, y_1.2.2.2.2.2.2.1, y_1.2.2.2.2.2.2.2.1,
    y_1.2.2.2.2.2.2.2.2.1, y_1.2.2.2.2.2.2.2.2.2.1, y_1.2.2.2.2.2.2.2.2.2.2.1, y_1.2.2.2.2.2.2.2.2.2.2.2.1, y_1.2.2.2.2.2.2.2.2.2.2.2.2.1, y_1.2.2.2.2.2.2.2.2.2.2.2.2.2.1,
    y_1.2.2.2.2.2.2.2.2.2.2.2.2.2.2.1, y_1.2.2.2.2.2.2.2.2.2.2.2.2.2.2.2.1, y_1.2.2.2.2.2.2.2.2.2.2.2.2.2.2.2.2.1, y_1.2.2.2.2.2.2.2.2.2.2.2.2.2.2.2.2.2.1, y_1.2.2.2.2.2.2.2.2.2.2.2.2.2.2.2.2.2.2.1,
    y_1.2.2.2.2.2.2.2.2.2.2.2.2.2.2.2.2.2.2.2.1, y_1.2.2.2.2.2.2.2.2.2.2.2.2.2.2.2.2.2.2.2.2.1, y_1.2.2.2.2.2.2.2.2.2.2.2.2.2.2.2.2.2.2.2.2.2.1, y_1.2.2.2.2.2.2.2.2.2.2.2.2.2.2.2.2.2.2.2.2.2.2.1,
    y_1.2.2.2.2.2.2.2.2.2.2.2.2.2.2.2.2.2.2.2.2.2.2.2) < nn)))))))))))))))))))))))))))))) ∧ True) ∧ ∀ (y_1 : X_carry), (y_1.1 = y.1 ∧ y_1.2.2.2.1 = y.2.2.2.1 ∧ y_1.2.2.2.2.1
    = y.2.2.2.2.1 ∧ y_1.2.2.2.2.2.1 = y.2.2.2.2.2.1 ∧ y_1.2.2.2.2.2.2.1 = y.2.2.2.2.2.2.1 ∧ y_1.2.2.2.2.2.2.2.1 = y.2.2.2.2.2.2.2.1 ∧ y_1.2.2.2.2.2.2.2.2.1 = y.2.2.2.2.2.2.2.2.1
    ∧ y_1.2.2.2.2.2.2.2.2.2.1 = y.2.2.2.2.2.2.2.2.2.1 ∧ y_1.2.2.2.2.2.2.2.2.2.2.1 = y.2.2.2.2.2.2.2.2.2.2.1 ∧ y_1.2.2.2.2.2.2.2.2.2.2.2.1 = y.2.2.2.2.2.2.2.2.2.2.2.1
    ∧ y_1.2.2.2.2.2.2.2.2.2.2.2.2.1 = y.2.2.2.2.2.2.2.2.2.2.2.2.1 ∧ y_1.2.2.2.2.2.2.2.2.2.2.2.2.2.1 = y.2.2.2.2.2.2.2.2.2.2.2.2.2.1 ∧ y_1.2.2.2.2.2.2.2.2.2.2.2.2.2.2.1
    = y.2.2.2.2.2.2.2.2.2.2.2.2.2.2.1 ∧ y_1.2.2.2.2.2.2.2.2.2.2.2.2.2.2.2.1 = y.2.2.2.2.2.2.2.2.2.2.2.2.2.2.2.1 ∧ y_1.2.2.2.2.2.2.2.2.2.2.2.2.2.2.2.2.1 = y.2.2.2.2.2.2.2.2.2.2.2.2.2.2.2.2.1
    ∧ y_1.2.2.2.2.2.2.2.2.2.2.2.2.2.2.2.2.2.1 = y.2.2.2.2.2.2.2.2.2.2.2.2.2.2.2.2.2.1) ∧ False → eqIr y_1.1 (eqLr y_1.2.2.2.1 (eqIr y_1.2.2.2.2.1 (eqIr y_1.2.2.2.2.2.1
    (eqIr y_1.2.2.2.2.2.2.1 (eqIr y_1.2.2.2.2.2.2.2.1 (eqIr y_1.2.2.2.2.2.2.2.2.1 (eqIr y_1.2.2.2.2.2.2.2.2.2.1 (eqLr y_1.2.2.2.2.2.2.2.2.2.2.1 (eqIr y_1.2.2.2.2.2.2.2.2.2.2.2.1
    (eqIr y_1.2.2.2.2.2.2.2.2.2.2.2.2.1 (eqIr y_1.2.2.2.2.2.2.2.2.2.2.2.2.2.1 (eqIr y_1.2.2.2.2.2.2.2.2.2.2.2.2.2.2.1 (eqIr y_1.2.2.2.2.2.2.2.2.2.2.2.2.2.2.2.1 (eqIr
    y_1.2.2.2.2.2.2.2.2.2.2.2.2.2.2.2.2.1 (eqLr false (eqIr 0 (eqIr 0 (eqIr 0 (eqIr 0 (eqIr 0 (eqIr 0 (eqLr y_1.2.2.2.2.2.2.2.2.2.2.2.2.2.2.2.2.2.1 (eqIr y_1.2.2.2.2.2.2.2.2.2.2.2.2.2.2.2.2.2.2.1
    (eqIr y_1.2.2.2.2.2.2.2.2.2.2.2.2.2.2.2.2.2.2.2.1 (eqIr y_1.2.2.2.2.2.2.2.2.2.2.2.2.2.2.2.2.2.2.2.2.1 (eqIr y_1.2.2.2.2.2.2.2.2.2.2.2.2.2.2.2.2.2.2.2.2.2.1 (eqIr
    y_1.2.2.2.2.2.2.2.2.2.2.2.2.2.2.2.2.2.2.2.2.2.2.1 (eqIr y_1.2.2.2.2.2.2.2.2.2.2.2.2.2.2.2.2.2.2.2.2.2.2.2 (RR (y_1.1, y_1.2.2.2.1, y_1.2.2.2.2.1, y_1.2.2.2.2.2.1,
    y_1.2.2.2.2.2.2.1, y_1.2.2.2.2.2.2.2.1, y_1.2.2.2.2.2.2.2.2.1, y_1.2.2.2.2.2.2.2.2.2.1, y_1.2.2.2.2.2.2.2.2.2.2.1, y_1.2.2.2.2.2.2.2.2.2.2.2.1, y_1.2.2.2.2.2.2.2.2.2.2.2.2.1,
    y_1.2.2.2.2.2.2.2.2.2.2.2.2.2.1, y_1.2.2.2.2.2.2.2.2.2.2.2.2.2.2.1, y_1.2.2.2.2.2.2.2.2.2.2.2.2.2.2.2.1, y_1.2.2.2.2.2.2.2.2.2.2.2.2.2.2.2.2.1, y_1.2.2.2.2.2.2.2.2.2.2.2.2.2.2.2.2.2.1,
    y_1.2.2.2.2.2.2.2.2.2.2.2.2.2.2.2.2.2.2.1, y_1.2.2.2.2.2.2.2.2.2.2.2.2.2.2.2.2.2.2.2.1, y_1.2.2.2.2.2.2.2.2.2.2.2.2.2.2.2.2.2.2.2.2.1, y_1.2.2.2.2.2.2.2.2.2.2.2.2.2.2.2.2.2.2.2.2.2.1,
    y_1.2.2.2.2.2.2.2.2.2.2.2.2.2.2.2.2.2.2.2.2.2.2.1, y_1.2.2.2.2.2.2.2.2.2.2.2.2.2.2.2.2.2.2.2.2.2.2.2))))))))))))))))))))))))))))))))))))))))))))))))))))))))))))))
    ∧ True) ∧ ∀ (y : X_mulj), (y.1 = i ∧ y.2.2.2.1 = p ∧ y.2.2.2.2.1 = a0 ∧ y.2.2.2.2.2.1 = a1 ∧ y.2.2.2.2.2.2.1 = a2 ∧ y.2.2.2.2.2.2.2.1 = a3 ∧ y.2.2.2.2.2.2.2.2.1
    = a4 ∧ y.2.2.2.2.2.2.2.2.2.1 = a5 ∧ y.2.2.2.2.2.2.2.2.2.2.1 = q ∧ y.2.2.2.2.2.2.2.2.2.2.2.1 = b0 ∧ y.2.2.2.2.2.2.2.2.2.2.2.2.1 = b1 ∧ y.2.2.2.2.2.2.2.2.2.2.2.2.2.1
    = b2 ∧ y.2.2.2.2.2.2.2.2.2.2.2.2.2.2.1 = b3 ∧ y.2.2.2.2.2.2.2.2.2.2.2.2.2.2.2.1 = b4 ∧ y.2.2.2.2.2.2.2.2.2.2.2.2.2.2.2.2.1 = b5 ∧ y.2.2.2.2.2.2.2.2.2.2.2.2.2.2.2.2.2.1
    = m) ∧ False → eqIr y.1 (eqLr y.2.2.2.1 (eqIr y.2.2.2.2.1 (eqIr y.2.2.2.2.2.1 (eqIr y.2.2.2.2.2.2.1 (eqIr y.2.2.2.2.2.2.2.1 (eqIr y.2.2.2.2.2.2.2.2.1 (eqIr y.2.2.2.2.2.2.2.2.2.1
    (eqLr y.2.2.2.2.2.2.2.2.2.2.1 (eqIr y.2.2.2.2.2.2.2.2.2.2.2.1 (eqIr y.2.2.2.2.2.2.2.2.2.2.2.2.1 (eqIr y.2.2.2.2.2.2.2.2.2.2.2.2.2.1 (eqIr y.2.2.2.2.2.2.2.2.2.2.2.2.2.2.1
    (eqIr y.2.2.2.2.2.2.2.2.2.2.2.2.2.2.2.1 (eqIr y.2.2.2.2.2.2.2.2.2.2.2.2.2.2.2.2.1 (eqLr false (eqIr 0 (eqIr 0 (eqIr 0 (eqIr 0 (eqIr 0 (eqIr 0 (eqLr y.2.2.2.2.2.2.2.2.2.2.2.2.2.2.2.2.2.1
    (eqIr y.2.2.2.2.2.2.2.2.2.2.2.2.2.2.2.2.2.2.1 (eqIr y.2.2.2.2.2.2.2.2.2.2.2.2.2.2.2.2.2.2.2.1 (eqIr y.2.2.2.2.2.2.2.2.2.2.2.2.2.2.2.2.2.2.2.2.1 (eqIr y.2.2.2.2.2.2.2.2.2.2.2.2.2.2.2.2.2.2.2.2.2.1
    (eqIr y.2.2.2.2.2.2.2.2.2.2.2.2.2.2.2.2.2.2.2.2.2.2.1 (eqIr y.2.2.2.2.2.2.2.2.2.2.2.2.2.2.2.2.2.2.2.2.2.2.2 (RR (y.1, y.2.2.2.1, y.2.2.2.2.1, y.2.2.2.2.2.1, y.2.2.2.2.2.2.1,
    y.2.2.2.2.2.2.2.1, y.2.2.2.2.2.2.2.2.1, y.2.2.2.2.2.2.2.2.2.1, y.2.2.2.2.2.2.2.2.2.2.1, y.2.2.2.2.2.2.2.2.2.2.2.1, y.2.2.2.2.2.2.2.2.2.2.2.2.1, y.2.2.2.2.2.2.2.2.2.2.2.2.2.1,
    y.2.2.2.2.2.2.2.2.2.2.2.2.2.2.1, y.2.2.2.2.2.2.2.2.2.2.2.2.2.2.2.1, y.2.2.2.2.2.2.2.2.2.2.2.2.2.2.2.2.1, y.2.2.2.2.2.2.2.2.2.2.2.2.2.2.2.2.2.1, y.2.2.2.2.2.2.2.2.2.2.2.2.2.2.2.2.2.2.1,
    y.2.2.2.2.2.2.2.2.2.2.2.2.2.2.2.2.2.2.2.1, y.2.2.2.2.2.2.2.2.2.2.2.2.2.2.2.2.2.2.2.2.1, y.2.2.2.2.2.2.2.2.2.2.2.2.2.2.2.2.2.2.2.2.2.1, y.2.2.2.2.2.2.2.2.2.2.2.2.2.2.2.2.2.2.2.2.2.2.1,
    y.2.2.2.2.2.2.2.2.2.2.2.2.2.2.2.2.2.2.2.2.2.2.2)))))))))))))))))))))))))))))))))))))))))))))))))))))))))))))) (eqIr i (eqLr p (eqIr a0 (eqIr a1 (eqIr a2 (eqIr a3
    (eqIr a4 (eqIr a5 (eqLr q (eqIr b0 (eqIr b1 (eqIr b2 (eqIr b3 (eqIr b4 (eqIr b5 (eqLr false (eqIr 0 (eqIr 0 (eqIr 0 (eqIr 0 (eqIr 0 (eqIr 0 (eqLr m (eqIr c0 (eqIr
    c1 (eqIr c2 (eqIr c3 (eqIr c4 (eqIr c5 (EE0 (i, p, a0, a1, a2, a3, a4, a5, q, b0, b1, b2, b3, b4, b5, m, c0, c1, c2, c3, c4, c5)))))))))))))))))))))))))))))))) := by kernel_rfl
theorem body_muli_ok : ∀ x y, Pre_muli x → Inv_muli x y → wfS (sh_muli y) → Hd (awp tab fs_bcmp (acall tab fs_bcmp specs_halves fns 100 20) [(7, S_mulj), (13, S_carry)] 100 (loopAt Try.f28 3) (bodyN sh_muli sx_muli nx_muli (Inv_muli x) (M_muli x) (M_muli x y) (D_muli x)) (sh_muli y)) := by
  rintro ⟨i0, p0, a00, a10, a20, a30, a40, a50, q0, b00, b10, b20, b30, b40, b50, m0, c00, c10, c20, c30, c40, c50⟩ ⟨i, p, a0, a1, a2, a3, a4, a5, q, b0, b1, b2, b3, b4, b5, m, c0, c1, c2, c3, c4, c5⟩ hp hI hw
  obtain ⟨⟨rfl, rfl, rfl, rfl, rfl, rfl, rfl, rfl, rfl, rfl, rfl, rfl, rfl, rfl, rfl⟩, hI⟩ := hI
  have hw_i := wfL_int hw 6 rfl
  have hw_a0 := wfC_int hw 0 1 rfl
  have hw_a1 := wfC_int hw 0 2 rfl
  have hw_a2 := wfC_int hw 0 3 rfl
  have hw_a3 := wfC_int hw 0 4 rfl
  have hw_a4 := wfC_int hw 0 5 rfl
  have hw_a5 := wfC_int hw 0 6 rfl
  have hw_b0 := wfC_int hw 1 1 rfl
  have hw_b1 := wfC_int hw 1 2 rfl
  have hw_b2 := wfC_int hw 1 3 rfl
  have hw_b3 := wfC_int hw 1 4 rfl
  have hw_b4 := wfC_int hw 1 5 rfl
  have hw_b5 := wfC_int hw 1 6 rfl
  have hw_c0 := wfC_int hw 3 1 rfl
  have hw_c1 := wfC_int hw 3 2 rfl
  have hw_c2 := wfC_int hw 3 3 rfl
  have hw_c3 := wfC_int hw 3 4 rfl
  have hw_c4 := wfC_int hw 3 5 rfl
  have hw_c5 := wfC_int hw 3 6 rfl
  have hp : i0 = 0 ∧ (dgt1 a0 ∧ dgt1 a1 ∧ dgt1 a2 ∧ dgt1 b0 ∧ dgt1 b1 ∧ dgt1 b2) ∧ dgtB c00 c10 c20 c30 c40 c50 ∧ magB c00 c10 c20 c30 c40 c50 = 0 := hp
  unfold D_muli
  rw [body_muli]
  refine ⟨?_⟩
  have hInv : ∀ (i : Int) (c0 : Int) (c1 : Int) (c2 : Int) (c3 : Int) (c4 : Int) (c5 : Int), ((0 ≤ i ∧ i ≤ 3) ∧ dgtB c0 c1 c2 c3 c4 c5 ∧ magB c0 c1 c2 c3 c4 c5 = accK i a0 a1 a2 b0 b1 b2) → Inv_muli (i0, p, a0, a1, a2, a3, a4, a5, q, b0, b1, b2, b3, b4, b5, m, c00, c10, c20, c30, c40, c50) (i, p, a0, a1, a2, a3, a4, a5, q, b0, b1, b2, b3, b4, b5, m, c0, c1, c2, c3, c4, c5) := fun _ _ _ _ _ _ _ h => ⟨⟨rfl, rfl, rfl, rfl, rfl, rfl, rfl, rfl, rfl, rfl, rfl, rfl, rfl, rfl, rfl⟩, h⟩
  generalize hIe : Inv_muli (i0, p, a0, a1, a2, a3, a4, a5, q, b0, b1, b2, b3, b4, b5, m, c00, c10, c20, c30, c40, c50) = Inv at hInv ⊢
  have hMe : ∀ (i : Int) (c0 : Int) (c1 : Int) (c2 : Int) (c3 : Int) (c4 : Int) (c5 : Int), M_muli (i0, p, a0, a1, a2, a3, a4, a5, q, b0, b1, b2, b3, b4, b5, m, c00, c10, c20, c30, c40, c50) (i, p, a0, a1, a2, a3, a4, a5, q, b0, b1, b2, b3, b4, b5, m, c0, c1, c2, c3, c4, c5) = (3 - i).toNat := fun _ _ _ _ _ _ _ => rfl
  generalize M_muli (i0, p, a0, a1, a2, a3, a4, a5, q, b0, b1, b2, b3, b4, b5, m, c00, c10, c20, c30, c40, c50) = Me at hMe ⊢
  have hE0 : ∀ (i : Int) (c0 : Int) (c1 : Int) (c2 : Int) (c3 : Int) (c4 : Int) (c5 : Int), (dgtB c0 c1 c2 c3 c4 c5 ∧ magB c0 c1 c2 c3 c4 c5 = accK 3 a0 a1 a2 b0 b1 b2) → E0_muli (i0, p, a0, a1, a2, a3, a4, a5, q, b0, b1, b2, b3, b4, b5, m, c00, c10, c20, c30, c40, c50) (i, p, a0, a1, a2, a3, a4, a5, q, b0, b1, b2, b3, b4, b5, m, c0, c1, c2, c3, c4, c5) := fun _ _ _ _ _ _ _ h => ⟨⟨rfl, rfl, rfl, rfl, rfl, rfl, rfl, rfl, rfl, rfl, rfl, rfl, rfl, rfl, rfl⟩, h⟩
  generalize E0_muli (i0, p, a0, a1, a2, a3, a4, a5, q, b0, b1, b2, b3, b4, b5, m, c00, c10, c20, c30, c40, c50) = EE0 at hE0 ⊢
  have hR : ∀ (i : Int) (c0 : Int) (c1 : Int) (c2 : Int) (c3 : Int) (c4 : Int) (c5 : Int), (False) → R_muli (i0, p, a0, a1, a2, a3, a4, a5, q, b0, b1, b2, b3, b4, b5, m, c00, c10, c20, c30, c40, c50) (i, p, a0, a1, a2, a3, a4, a5, q, b0, b1, b2, b3, b4, b5, m, c0, c1, c2, c3, c4, c5) := fun _ _ _ _ _ _ _ h => ⟨⟨rfl, rfl, rfl, rfl, rfl, rfl, rfl, rfl, rfl, rfl, rfl, rfl, rfl, rfl, rfl⟩, h⟩
  generalize R_muli (i0, p, a0, a1, a2, a3, a4, a5, q, b0, b1, b2, b3, b4, b5, m, c00, c10, c20, c30, c40, c50) = RR at hR ⊢
  obtain ⟨hi, hd, hm⟩ := hI
  obtain ⟨p1, ⟨x0, x1, x2, y0, y1, y2⟩, p3, p4⟩ := hp
  by_cases hlt : i < 3
  · have ei : addW .i64 i 1 = i + 1 := addW64 (by omega) (by omega)
    have ej : addW .i64 i 3 = i + 3 := addW64 (by omega) (by omega)
    have hst := acc_step (a0 := a0) (a1 := a1) (a2 := a2) (b0 := b0) (b1 := b1) (b2 := b2) hi.1 hlt
    have hft := acc_fits (i := i + 1) x0 x1 x2 y0 y1 y2
    rw [ltB_t.2 hlt]
    simp only [ifB_def, eqI_def, eqL_def, need_def, true_and, and_true]
    refine ⟨fun _ => ⟨⟨by omega, hd, x0, x1, x2, y0, y1, y2⟩, ?_, ?_⟩, fun h => by cases h⟩
    · rintro ⟨i', k', j', p', a0', a1', a2', a3', a4', a5', q', b0', b1', b2', b3', b4', b5', m', c0', c1', c2', c3', c4', c5'⟩ ⟨hk, hx⟩
      dsimp only at hk hx ⊢
      obtain ⟨rfl, rfl, rfl, rfl, rfl, rfl, rfl, rfl, rfl, rfl, rfl, rfl, rfl, rfl, rfl, rfl⟩ := hk
      refine ⟨⟨by rw [ej]; omega, hx.1, hx.2.1, ?_⟩, ?_, ?_⟩
      · unfold fitsB; rw [hx.2.2, hm, ← hst]; exact hft
      · rintro ⟨iz, kz, jz, pz, a0z, a1z, a2z, a3z, a4z, a5z, qz, b0z, b1z, b2z, b3z, b4z, b5z, mz, c0z, c1z, c2z, c3z, c4z, c5z⟩ ⟨hk, hy⟩
        dsimp only at hk hy ⊢
        obtain ⟨rfl, rfl, rfl, rfl, rfl, rfl, rfl, rfl, rfl, rfl, rfl, rfl, rfl, rfl, rfl, rfl⟩ := hk
        rw [ei]
        exact ⟨hInv _ _ _ _ _ _ _ ⟨⟨by omega, by omega⟩, hy.1, by rw [hy.2, hx.2.2, hm, ← hst]⟩, by simp only [hMe]; omega⟩
      · rintro ⟨iz, kz, jz, pz, a0z, a1z, a2z, a3z, a4z, a5z, qz, b0z, b1z, b2z, b3z, b4z, b5z, mz, c0z, c1z, c2z, c3z, c4z, c5z⟩ ⟨hk, hy⟩; exact hy.elim
    · rintro ⟨i', k', j', p', a0', a1', a2', a3', a4', a5', q', b0', b1', b2', b3', b4', b5', m', c0', c1', c2', c3', c4', c5'⟩ ⟨hk, hy⟩; exact hy.elim
  · have e : i = 3 := by omega
    rw [ltB_f.2 (Int.not_lt.1 hlt)]
    simp only [simpsL, implies_true, forall_const, if_true, if_false, reduceCtorEq]
    exact hE0 _ _ _ _ _ _ _ ⟨hd, by rw [hm, e]⟩
theorem lok_muli : LoopsOK Try.prog [(7, S_mulj), (13, S_carry)] (loopAt Try.f28 3) := loopsOK_at (by kernel_rfl) fun k S h => by
  simp only [List.mem_cons, Prod.mk.injEq, List.not_mem_nil, or_false] at h
  rcases h with ⟨rfl, rfl⟩ | ⟨rfl, rfl⟩
  · exact (by kernel_rfl : findLoop (loopsOf (loopAt Try.f28 3)) 7 = loopAt Try.f28 7) ▸ summ_mulj
  · exact (by kernel_rfl : findLoop (loopsOf (loopAt Try.f28 3)) 13 = loopAt Try.f28 13) ▸ summ_carry
theorem summ_muli : SummOK Try.prog (loopAt Try.f28 3) S_muli :=
  summN_ok (L := [(7, S_mulj), (13, S_carry)]) (fuel := 100) tabOK fsOK_bcmp (mkCall fsOK_bcmp specsOK_halves fnsOK) (fun C => mkDraw fsOK_bcmp (mkCall fsOK_bcmp specsOK_halves fnsOK) C) lok_muli Inv_muli M_muli
    (fun x hp hw => by
      obtain ⟨i, p, a0, a1, a2, a3, a4, a5, q, b0, b1, b2, b3, b4, b5, m, c0, c1, c2, c3, c4, c5⟩ := x
      have hp : i = 0 ∧ (dgt1 a0 ∧ dgt1 a1 ∧ dgt1 a2 ∧ dgt1 b0 ∧ dgt1 b1 ∧ dgt1 b2) ∧ dgtB c0 c1 c2 c3 c4 c5 ∧ magB c0 c1 c2 c3 c4 c5 = 0 := hp
      have hw_i := wfL_int hw 6 rfl
      have hw_a0 := wfC_int hw 0 1 rfl
      have hw_a1 := wfC_int hw 0 2 rfl
      have hw_a2 := wfC_int hw 0 3 rfl
      have hw_a3 := wfC_int hw 0 4 rfl
      have hw_a4 := wfC_int hw 0 5 rfl
      have hw_a5 := wfC_int hw 0 6 rfl
      have hw_b0 := wfC_int hw 1 1 rfl
      have hw_b1 := wfC_int hw 1 2 rfl
      have hw_b2 := wfC_int hw 1 3 rfl
      have hw_b3 := wfC_int hw 1 4 rfl
      have hw_b4 := wfC_int hw 1 5 rfl
      have hw_b5 := wfC_int hw 1 6 rfl
      have hw_c0 := wfC_int hw 3 1 rfl
      have hw_c1 := wfC_int hw 3 2 rfl
      have hw_c2 := wfC_int hw 3 3 rfl
      have hw_c3 := wfC_int hw 3 4 rfl
      have hw_c4 := wfC_int hw 3 5 rfl
      have hw_c5 := wfC_int hw 3 6 rfl
      obtain ⟨rfl, h1, h2, h3⟩ := hp
      exact ⟨⟨rfl, rfl, rfl, rfl, rfl, rfl, rfl, rfl, rfl, rfl, rfl, rfl, rfl, rfl, rfl⟩, by omega, h2, h3.trans rfl⟩)
    (body_muli_ok)
theorem acc_two {a0 a1 b0 b1 : Int} : accK 3 a0 a1 0 b0 b1 0 = magB a0 a1 0 0 0 0 * magB b0 b1 0 0 0 0 := by
  have h : ∀ x y : Int, magB x y 0 0 0 0 = x + 4294967296 * y := fun x y => by unfold magB; omega
  have m0 : midK 0 a0 a1 0 b0 b1 0 = a0 * b0 + 4294967296 * (a0 * b1) + 18446744073709551616 * (a0 * 0) := rfl
  have m1 : midK 1 a0 a1 0 b0 b1 0 = 4294967296 * (a1 * b0) + 18446744073709551616 * (a1 * b1) + 79228162514264337593543950336 * (a1 * 0) := rfl
  have m2 : midK 2 a0 a1 0 b0 b1 0 = 18446744073709551616 * (0 * b0) + 79228162514264337593543950336 * (0 * b1) + 340282366920938463463374607431768211456 * (0 * 0) := rfl
  have e : accK 3 a0 a1 0 b0 b1 0 = midK 0 a0 a1 0 b0 b1 0 + midK 1 a0 a1 0 b0 b1 0 + midK 2 a0 a1 0 b0 b1 0 := rfl
  rw [e, m0, m1, m2, h, h, Int.add_mul, Int.mul_add, Int.mul_add, Int.mul_left_comm a0, Int.mul_assoc, Int.mul_assoc, Int.mul_left_comm a1]
  simp only [Int.mul_zero, Int.zero_mul]
  omega
theorem sign_mul {m n : Bool} {c0 c1 c2 c3 c4 c5 d0 d1 d2 d3 d4 d5 e0 e1 e2 e3 e4 e5 : Int} (h : magB c0 c1 c2 c3 c4 c5 = magB d0 d1 d2 d3 d4 d5 * magB e0 e1 e2 e3 e4 e5) : bigV (selB (notB (beqB m n)) (notB (zeroB c0 c1 c2 c3 c4 c5)) false) c0 c1 c2 c3 c4 c5 = bigV m d0 d1 d2 d3 d4 d5 * bigV n e0 e1 e2 e3 e4 e5 := by
  unfold bigV zeroB
  rw [h]
  generalize magB d0 d1 d2 d3 d4 d5 = A
  generalize magB e0 e1 e2 e3 e4 e5 = E
  cases m <;> cases n <;> simp [selB_f, notB_def, beqB_def, Int.neg_mul_neg, Int.neg_mul, Int.mul_neg]
  all_goals
    intro h
    by_cases hA : A = 0
    · simp [hA]
    · simp [h hA]
noncomputable def fns_bmul : Fns := (28, Try.f28, [(3, S_muli)]) :: fns
theorem fn_bmul : FnOK Try.prog 28 Try.f28 [(3, S_muli)] := fnOK_loops Try.func28 (fun vs w => Try.call28 vs w) (by kernel_rfl) fun k S h => by
  simp only [List.mem_cons, Prod.mk.injEq, List.not_mem_nil, or_false] at h
  obtain ⟨rfl, rfl⟩ := h
  exact summ_muli
theorem fns_bmulOK : FnsOK Try.prog fns_bmul := fnsOK_cons fn_bmul fnsOK
noncomputable def bmulS : List AV → List Blk → AK → Prop := fun args m K => match args, m with | [.agg [.bool m, .int .i64 d0, .int .i64 d1, .int .i64 0, .int .i64 0, .int .i64 0, .int .i64 0], .agg [.bool n, .int .i64 e0, .int .i64 e1, .int .i64 0, .int .i64 0, .int .i64 0, .int .i64 0]], [] => need (dgt1 d0) (need (dgt1 d1) (need (dgt1 e0) (need (dgt1 e1) (∀ (l : Bool) (f0 f1 f2 f3 f4 f5 : Int), okB l f0 f1 f2 f3 f4 f5 → bigV l f0 f1 f2 f3 f4 f5 = bigV m d0 d1 0 0 0 0 * bigV n e0 e1 0 0 0 0 → K (.ret (.agg [.bool l, .int .i64 f0, .int .i64 f1, .int .i64 f2, .int .i64 f3, .int .i64 f4, .int .i64 f5])) [] [] [])))) | _, _ => False
theorem bmul_eq (K : AK) (m : Bool) (d0 d1 : Int) (n : Bool) (e0 e1 : Int) : acall tab fs_bcmp specs_halves fns_bmul 100 20 28 [.agg [.bool m, .int .i64 d0, .int .i64 d1, .int .i64 0, .int .i64 0, .int .i64 0, .int .i64 0], .agg [.bool n, .int .i64 e0, .int .i64 e1, .int .i64 0, .int .i64 0, .int .i64 0, .int .i64 0]] [] K =
  (eqIr 0 (eqLr m (eqIr d0 (eqIr d1 (eqIr 0 (eqIr 0 (eqIr 0 (eqIr 0 (eqLr n (eqIr e0 (eqIr e1 (eqIr 0 (eqIr 0 (eqIr 0 (eqIr 0 (eqLr false (eqIr 0 (eqIr 0 (eqIr 0 (eqIr
    0 (eqIr 0 (eqIr 0 (eqLr false (eqIr 0 (eqIr 0 (eqIr 0 (eqIr 0 (eqIr 0 (eqIr 0 (((0 : Int) = 0 ∧ (dgt1 d0 ∧ dgt1 d1 ∧ dgt1 0 ∧ dgt1 e0 ∧ dgt1 e1 ∧ dgt1 0) ∧ dgtB
    0 0 0 0 0 0 ∧ magB 0 0 0 0 0 (0 : Int) = 0) ∧ ((∀ (y : X_muli), (y.2.1 = m ∧ y.2.2.1 = d0 ∧ y.2.2.2.1 = d1 ∧ y.2.2.2.2.1 = 0 ∧ y.2.2.2.2.2.1 = 0 ∧ y.2.2.2.2.2.2.1
    = 0 ∧ y.2.2.2.2.2.2.2.1 = 0 ∧ y.2.2.2.2.2.2.2.2.1 = n ∧ y.2.2.2.2.2.2.2.2.2.1 = e0 ∧ y.2.2.2.2.2.2.2.2.2.2.1 = e1 ∧ y.2.2.2.2.2.2.2.2.2.2.2.1 = 0 ∧ y.2.2.2.2.2.2.2.2.2.2.2.2.1
    = 0 ∧ y.2.2.2.2.2.2.2.2.2.2.2.2.2.1 = 0 ∧ y.2.2.2.2.2.2.2.2.2.2.2.2.2.2.1 = 0 ∧ y.2.2.2.2.2.2.2.2.2.2.2.2.2.2.2.1 = false) ∧ dgtB y.2.2.2.2.2.2.2.2.2.2.2.2.2.2.2.2.1
    y.2.2.2.2.2.2.2.2.2.2.2.2.2.2.2.2.2.1 y.2.2.2.2.2.2.2.2.2.2.2.2.2.2.2.2.2.2.1 y.2.2.2.2.2.2.2.2.2.2.2.2.2.2.2.2.2.2.2.1 y.2.2.2.2.2.2.2.2.2.2.2.2.2.2.2.2.2.2.2.2.1
    y.2.2.2.2.2.2.2.2.2.2.2.2.2.2.2.2.2.2.2.2.2 ∧ magB y.2.2.2.2.2.2.2.2.2.2.2.2.2.2.2.2.1 y.2.2.2.2.2.2.2.2.2.2.2.2.2.2.2.2.2.1 y.2.2.2.2.2.2.2.2.2.2.2.2.2.2.2.2.2.2.1
    y.2.2.2.2.2.2.2.2.2.2.2.2.2.2.2.2.2.2.2.1 y.2.2.2.2.2.2.2.2.2.2.2.2.2.2.2.2.2.2.2.2.1 y.2.2.2.2.2.2.2.2.2.2.2.2.2.2.2.2.2.2.2.2.2 = accK 3 y.2.2.1 y.2.2.2.1 y.2.2.2.2.1
    y.2.2.2.2.2.2.2.2.2.1 y.2.2.2.2.2.2.2.2.2.2.1 y.2.2.2.2.2.2.2.2.2.2.2.1 → need (impB (notB (beqB y.2.1 y.2.2.2.2.2.2.2.2.1)) (dgtB y.2.2.2.2.2.2.2.2.2.2.2.2.2.2.2.2.1
    y.2.2.2.2.2.2.2.2.2.2.2.2.2.2.2.2.2.1 y.2.2.2.2.2.2.2.2.2.2.2.2.2.2.2.2.2.2.1 y.2.2.2.2.2.2.2.2.2.2.2.2.2.2.2.2.2.2.2.1 y.2.2.2.2.2.2.2.2.2.2.2.2.2.2.2.2.2.2.2.2.1
    y.2.2.2.2.2.2.2.2.2.2.2.2.2.2.2.2.2.2.2.2.2)) (K (AOut.ret (AV.agg (AV.bool (selB (notB (beqB y.2.1 y.2.2.2.2.2.2.2.2.1)) (notB (zeroB y.2.2.2.2.2.2.2.2.2.2.2.2.2.2.2.2.1
    y.2.2.2.2.2.2.2.2.2.2.2.2.2.2.2.2.2.1 y.2.2.2.2.2.2.2.2.2.2.2.2.2.2.2.2.2.2.1 y.2.2.2.2.2.2.2.2.2.2.2.2.2.2.2.2.2.2.2.1 y.2.2.2.2.2.2.2.2.2.2.2.2.2.2.2.2.2.2.2.2.1
    y.2.2.2.2.2.2.2.2.2.2.2.2.2.2.2.2.2.2.2.2.2)) false) :: AV.int IntKind.i64 y.2.2.2.2.2.2.2.2.2.2.2.2.2.2.2.2.1 :: AV.int IntKind.i64 y.2.2.2.2.2.2.2.2.2.2.2.2.2.2.2.2.2.1
    :: AV.int IntKind.i64 y.2.2.2.2.2.2.2.2.2.2.2.2.2.2.2.2.2.2.1 :: AV.int IntKind.i64 y.2.2.2.2.2.2.2.2.2.2.2.2.2.2.2.2.2.2.2.1 :: AV.int IntKind.i64 y.2.2.2.2.2.2.2.2.2.2.2.2.2.2.2.2.2.2.2.2.1
    :: AV.int IntKind.i64 y.2.2.2.2.2.2.2.2.2.2.2.2.2.2.2.2.2.2.2.2.2 :: []))) ([]) [] [])) ∧ True) ∧ ∀ (y : X_muli), (y.2.1 = m ∧ y.2.2.1 = d0 ∧ y.2.2.2.1 = d1 ∧ y.2.2.2.2.1
    = 0 ∧ y.2.2.2.2.2.1 = 0 ∧ y.2.2.2.2.2.2.1 = 0 ∧ y.2.2.2.2.2.2.2.1 = 0 ∧ y.2.2.2.2.2.2.2.2.1 = n ∧ y.2.2.2.2.2.2.2.2.2.1 = e0 ∧ y.2.2.2.2.2.2.2.2.2.2.1 = e1 ∧ y.2.2.2.2.2.2.2.2.2.2.2.1
    = 0 ∧ y.2.2.2.2.2.2.2.2.2.2.2.2.1 = 0 ∧ y.2.2.2.2.2.2.2.2.2.2.2.2.2.1 = 0 ∧ y.2.2.2.2.2.2.2.2.2.2.2.2.2.2.1 = 0 ∧ y.2.2.2.2.2.2.2.2.2.2.2.2.2.2.2.1 = false) ∧ False
    → K (AOut.ret (AV.agg (AV.bool false :: AV.int IntKind.i64 0 :: AV.int IntKind.i64 0 :: AV.int IntKind.i64 0 :: AV.int IntKind.i64 0 :: AV.int IntKind.i64 0 :: AV.int
    IntKind.i64 0 :: []))) ([]) [] [])))))))))))))))))))))))))))))) := by kernel_rfl
theorem bmul_ok : SpecOK Try.prog 28 bmulS := specOK_of (mkCall fsOK_bcmp specsOK_halves fns_bmulOK) (fun vs w => Try.call28 vs w) fun args m K h hw hwm => by
  unfold bmulS at h
  split at h
  · rename_i m d0 d1 n e0 e1
    rw [bmul_eq]
    refine ⟨?_⟩
    simp only [wfAL, wfA, wfS, wfM, wfB, and_true, true_and, wfT_int, wfT_str, wfT_bool, wfT_prod] at hw hwm
    obtain ⟨h1, h2, h3, h4, h⟩ := h
    simp only [ifB_def, eqI_def, eqL_def, need_def, true_and, and_true]
    have z1 : dgt1 0 := by unfold dgt1; omega
    refine ⟨⟨⟨h1, h2, z1, h3, h4, z1⟩, by unfold dgtB; omega, by unfold magB; omega⟩, ?_, ?_⟩
    · rintro ⟨i', p', a0', a1', a2', a3', a4', a5', q', b0', b1', b2', b3', b4', b5', m', c0, c1, c2, c3, c4, c5⟩ ⟨hk, hd, hm⟩
      dsimp only at hk hd hm ⊢
      obtain ⟨rfl, rfl, rfl, rfl, rfl, rfl, rfl, rfl, rfl, rfl, rfl, rfl, rfl, rfl, rfl⟩ := hk
      have hA := acc_two (a0 := a0') (a1 := a1') (b0 := b0') (b1 := b1')
      refine ⟨by rw [impB_def]; exact fun _ => hd, h _ _ _ _ _ _ _ ⟨hd, fun hl => ?_⟩ ?_⟩
      · simp only [selB_f, Bool.and_eq_true, notB_def, Bool.not_eq_true', zeroB, decide_eq_false_iff_not] at hl
        exact hl.2
      · exact sign_mul (hm.trans hA)
    · rintro ⟨i', p', a0', a1', a2', a3', a4', a5', q', b0', b1', b2', b3', b4', b5', m', c0, c1, c2, c3, c4, c5⟩ ⟨hk, hy⟩; exact hy.elim
  · exact h.elim
noncomputable def SP_bmul : List AV → List Blk → AK → Prop := (frameS bmulS)
theorem SPok_bmul : SpecOK Try.prog 28 SP_bmul := (frame_ok bmul_ok)
noncomputable def specs_bmul : Specs := (28, SP_bmul) :: specs_halves
theorem specsOK_bmul : SpecsOK Try.prog specs_bmul := specsOK_cons SPok_bmul specsOK_halves
end Go.Proofs.Ytmdjpohmbkodeaa.Sx

