/- Products of numbers of six halves. -/
import Derived.Test.YtmdjpohmbkodeaaSmTraceL
namespace Go.Proofs.Ytmdjpohmbkodeaa.Sx
open Go.RowKit
set_option maxRecDepth 100000
set_option maxHeartbeats 4000000
set_option linter.unusedVariables false
set_option linter.unusedSimpArgs false
theorem step_car {c k : Int} (hc : 0 ≤ c ∧ c < 4294967296) (hk : 0 ≤ k ∧ k < 4294967296) : ∃ r l, remI (addW .i64 c k) 4294967296 = r ∧ quoW .i64 (addW .i64 c k) 4294967296 = l ∧ c + k = r + 4294967296 * l ∧ (0 ≤ r ∧ r < 4294967296) ∧ 0 ≤ l ∧ l < 4294967296 := by
  rw [addW64 (a := c) (by omega) (by omega), quo_pos (by omega) (by omega) (by omega), rem_pos (by omega)]
  exact ⟨_, _, rfl, rfl, by omega, by omega, by omega, by omega⟩
def upK (i k : Int) : Int := if i = 0 then 79228162514264337593543950336 * k else if i = 1 then 340282366920938463463374607431768211456 * k else 1461501637330902918203684832716283019655932542976 * k
abbrev X_carry := Int × Int × Int × Bool × Int × Int × Int × Int × Int × Int × Bool × Int × Int × Int × Int × Int × Int × Bool × Int × Int × Int × Int × Int × Int
def sh_carry : X_carry → St := fun x => match x with | (i, k, j, p, a0, a1, a2, a3, a4, a5, q, b0, b1, b2, b3, b4, b5, m, c0, c1, c2, c3, c4, c5) => ⟨setL (rep .bad 90) [(6, .int .i64 i), (7, .int .i64 k), (12, .int .i64 j), (2, .ptr 0 0), (3, .ptr 1 0), (4, .ptr 2 0), (5, .ptr 3 0)], [.var [.bool p, .int .i64 a0, .int .i64 a1, .int .i64 a2, .int .i64 a3, .int .i64 a4, .int .i64 a5], .var [.bool q, .int .i64 b0, .int .i64 b1, .int .i64 b2, .int .i64 b3, .int .i64 b4, .int .i64 b5], .var [.bool false, .int .i64 0, .int .i64 0, .int .i64 0, .int .i64 0, .int .i64 0, .int .i64 0], .var [.bool m, .int .i64 c0, .int .i64 c1, .int .i64 c2, .int .i64 c3, .int .i64 c4, .int .i64 c5]], [0, 1, 2, 3, 4, 5], [0, 1, 2, 3, 4, 5]⟩
def sx_carry : AExit → X_carry → St := fun _ => sh_carry
def nx_carry (σ : St) : X_carry := (gI σ 6, gI σ 7, gI σ 12, cB σ 0 0, cI σ 0 1, cI σ 0 2, cI σ 0 3, cI σ 0 4, cI σ 0 5, cI σ 0 6, cB σ 1 0, cI σ 1 1, cI σ 1 2, cI σ 1 3, cI σ 1 4, cI σ 1 5, cI σ 1 6, cB σ 3 0, cI σ 3 1, cI σ 3 2, cI σ 3 3, cI σ 3 4, cI σ 3 5, cI σ 3 6)
def Pre_carry : X_carry → Prop := fun x => match x with | (i, k, j, p, a0, a1, a2, a3, a4, a5, q, b0, b1, b2, b3, b4, b5, m, c0, c1, c2, c3, c4, c5) => ((i = 0 ∧ j = 3) ∨ (i = 1 ∧ j = 4) ∨ (i = 2 ∧ j = 5)) ∧ (dgtB c0 c1 c2 c3 c4 c5 ∧ dgt1 k ∧ fitsB (magB c0 c1 c2 c3 c4 c5) (upK i k))
def E4_carry : X_carry → X_carry → Prop := fun x y => match x, y with | (i0, k0, j0, p0, a00, a10, a20, a30, a40, a50, q0, b00, b10, b20, b30, b40, b50, m0, c00, c10, c20, c30, c40, c50), (i, k, j, p, a0, a1, a2, a3, a4, a5, q, b0, b1, b2, b3, b4, b5, m, c0, c1, c2, c3, c4, c5) => (i = i0 ∧ p = p0 ∧ a0 = a00 ∧ a1 = a10 ∧ a2 = a20 ∧ a3 = a30 ∧ a4 = a40 ∧ a5 = a50 ∧ q = q0 ∧ b0 = b00 ∧ b1 = b10 ∧ b2 = b20 ∧ b3 = b30 ∧ b4 = b40 ∧ b5 = b50 ∧ m = m0) ∧ (dgtB c0 c1 c2 c3 c4 c5 ∧ magB c0 c1 c2 c3 c4 c5 = magB c00 c10 c20 c30 c40 c50 + upK i0 k0)
def R_carry : X_carry → X_carry → Prop := fun x y => match x, y with | (i0, k0, j0, p0, a00, a10, a20, a30, a40, a50, q0, b00, b10, b20, b30, b40, b50, m0, c00, c10, c20, c30, c40, c50), (i, k, j, p, a0, a1, a2, a3, a4, a5, q, b0, b1, b2, b3, b4, b5, m, c0, c1, c2, c3, c4, c5) => (i = i0 ∧ p = p0 ∧ a0 = a00 ∧ a1 = a10 ∧ a2 = a20 ∧ a3 = a30 ∧ a4 = a40 ∧ a5 = a50 ∧ q = q0 ∧ b0 = b00 ∧ b1 = b10 ∧ b2 = b20 ∧ b3 = b30 ∧ b4 = b40 ∧ b5 = b50 ∧ m = m0) ∧ (False)
def D_carry : X_carry → LEnds X_carry := fun x => ⟨[(4, E4_carry x)], R_carry x⟩
noncomputable def S_carry : Summ := summN sh_carry sx_carry nx_carry Pre_carry D_carry
theorem body_carry0 (EE4 RR : X_carry → Prop) (k : Int) (p : Bool) (a0 : Int) (a1 : Int) (a2 : Int) (a3 : Int) (a4 : Int) (a5 : Int) (q : Bool) (b0 : Int) (b1 : Int) (b2 : Int) (b3 : Int) (b4 : Int) (b5 : Int) (m : Bool) (c0 : Int) (c1 : Int) (c2 : Int) (c3 : Int) (c4 : Int) (c5 : Int) : awp tab fs_bcmp (acall tab fs_bcmp specs_halves fns 100 20) [] 100 (.loop (loopAt Try.f28 13)) (bodyN sh_carry sx_carry nx_carry (fun _ => False) (fun _ => 0) 0 ⟨[(4, EE4)], RR⟩) (sh_carry (0, k, 3, p, a0, a1, a2, a3, a4, a5, q, b0, b1, b2, b3, b4, b5, m, c0, c1, c2, c3, c4, c5)) =
  (ifB (ltB 0 k) (need (inI 3 6) (need (nzI 4294967296) (need (nzI 4294967296) (need (inI 3 6) (ifB (ltB 0 (quoW IntKind.i64 (addW IntKind.i64 c3 k) 4294967296)) (need
    (inI 4 6) (need (nzI 4294967296) (need (nzI 4294967296) (need (inI 4 6) (ifB (ltB 0 (quoW IntKind.i64 (addW IntKind.i64 c4 (quoW IntKind.i64 (addW IntKind.i64 c3
    k) 4294967296)) 4294967296)) (need (inI 5 6) (need (nzI 4294967296) (need (nzI 4294967296) (need (inI 5 6) (eqIr 0 (eqIr (quoW IntKind.i64 (addW IntKind.i64 c5 (quoW
    IntKind.i64 (addW IntKind.i64 c4 (quoW IntKind.i64 (addW IntKind.i64 c3 k) 4294967296)) 4294967296)) 4294967296) (eqIr 6 (eqLr p (eqIr a0 (eqIr a1 (eqIr a2 (eqIr
    a3 (eqIr a4 (eqIr a5 (eqLr q (eqIr b0 (eqIr b1 (eqIr b2 (eqIr b3 (eqIr b4 (eqIr b5 (eqLr false (eqIr 0 (eqIr 0 (eqIr 0 (eqIr 0 (eqIr 0 (eqIr 0 (eqLr m (eqIr c0 (eqIr
    c1 (eqIr c2 (eqIr (remI (addW IntKind.i64 c3 k) 4294967296) (eqIr (remI (addW IntKind.i64 c4 (quoW IntKind.i64 (addW IntKind.i64 c3 k) 4294967296)) 4294967296) (eqIr
    (remI (addW IntKind.i64 c5 (quoW IntKind.i64 (addW IntKind.i64 c4 (quoW IntKind.i64 (addW IntKind.i64 c3 k) 4294967296)) 4294967296)) 4294967296) (EE4 (0, quoW IntKind.i64
    (addW IntKind.i64 c5 (quoW IntKind.i64 (addW IntKind.i64 c4 (quoW IntKind.i64 (addW IntKind.i64 c3 k) 4294967296)) 4294967296)) 4294967296, 6, p, a0, a1, a2, a3,
    a4, a5, q, b0, b1, b2, b3, b4, b5, m, c0, c1, c2, remI (addW IntKind.i64 c3 k) 4294967296, remI (addW IntKind.i64 c4 (quoW IntKind.i64 (addW IntKind.i64 c3 k) 4294967296))
    4294967296, remI (addW IntKind.i64 c5 (quoW IntKind.i64 (addW IntKind.i64 c4 (quoW IntKind.i64 (addW IntKind.i64 c3 k) 4294967296)) 4294967296)) 4294967296)))))))))))))))))))))))))))))))))))))
    (eqIr 0 (eqIr (quoW IntKind.i64 (addW IntKind.i64 c4 (quoW IntKind.i64 (addW IntKind.i64 c3 k) 4294967296)) 4294967296) (eqIr 5 (eqLr p (eqIr a0 (eqIr a1 (eqIr a2
    (eqIr a3 (eqIr a4 (eqIr a5 (eqLr q (eqIr b0 (eqIr b1 (eqIr b2 (eqIr b3 (eqIr b4 (eqIr b5 (eqLr false (eqIr 0 (eqIr 0 (eqIr 0 (eqIr 0 (eqIr 0 (eqIr 0 (eqLr m (eqIr
    c0 (eqIr c1 (eqIr c2 (eqIr (remI (addW IntKind.i64 c3 k) 4294967296) (eqIr (remI (addW IntKind.i64 c4 (quoW IntKind.i64 (addW IntKind.i64 c3 k) 4294967296)) 4294967296)
    (eqIr c5 (EE4 (0, quoW IntKind.i64 (addW IntKind.i64 c4 (quoW IntKind.i64 (addW IntKind.i64 c3 k) 4294967296)) 4294967296, 5, p, a0, a1, a2, a3, a4, a5, q, b0, b1,
    b2, b3, b4, b5, m, c0, c1, c2, remI (addW IntKind.i64 c3 k) 4294967296, remI (addW IntKind.i64 c4 (quoW IntKind.i64 (addW IntKind.i64 c3 k) 4294967296)) 4294967296,
    c5)))))))))))))))))))))))))))))))))))))) (eqIr 0 (eqIr (quoW IntKind.i64 (addW IntKind.i64 c3 k) 4294967296) (eqIr 4 (eqLr p (eqIr a0 (eqIr a1 (eqIr a2 (eqIr a3
    (eqIr a4 (eqIr a5 (eqLr q (eqIr b0 (eqIr b1 (eqIr b2 (eqIr b3 (eqIr b4 (eqIr b5 (eqLr false (eqIr 0 (eqIr 0 (eqIr 0 (eqIr 0 (eqIr 0 (eqIr 0 (eqLr m (eqIr c0 (eqIr
    c1 (eqIr c2 (eqIr (remI (addW IntKind.i64 c3 k) 4294967296) (eqIr c4 (eqIr c5 (EE4 (0, quoW IntKind.i64 (addW IntKind.i64 c3 k) 4294967296, 4, p, a0, a1, a2, a3,
    a4, a5, q, b0, b1, b2, b3, b4, b5, m, c0, c1, c2, remI (addW IntKind.i64 c3 k) 4294967296, c4, c5)))))))))))))))))))))))))))))))))))))) (eqIr 0 (eqIr k (eqIr 3 (eqLr
    p (eqIr a0 (eqIr a1 (eqIr a2 (eqIr a3 (eqIr a4 (eqIr a5 (eqLr q (eqIr b0 (eqIr b1 (eqIr b2 (eqIr b3 (eqIr b4 (eqIr b5 (eqLr false (eqIr 0 (eqIr 0 (eqIr 0 (eqIr 0
    (eqIr 0 (eqIr 0 (eqLr m (eqIr c0 (eqIr c1 (eqIr c2 (eqIr c3 (eqIr c4 (eqIr c5 (EE4 (0, k, 3, p, a0, a1, a2, a3, a4, a5, q, b0, b1, b2, b3, b4, b5, m, c0, c1, c2,
    c3, c4, c5)))))))))))))))))))))))))))))))))) := by kernel_rfl
theorem body_carry1 (EE4 RR : X_carry → Prop) (k : Int) (p : Bool) (a0 : Int) (a1 : Int) (a2 : Int) (a3 : Int) (a4 : Int) (a5 : Int) (q : Bool) (b0 : Int) (b1 : Int) (b2 : Int) (b3 : Int) (b4 : Int) (b5 : Int) (m : Bool) (c0 : Int) (c1 : Int) (c2 : Int) (c3 : Int) (c4 : Int) (c5 : Int) : awp tab fs_bcmp (acall tab fs_bcmp specs_halves fns 100 20) [] 100 (.loop (loopAt Try.f28 13)) (bodyN sh_carry sx_carry nx_carry (fun _ => False) (fun _ => 0) 0 ⟨[(4, EE4)], RR⟩) (sh_carry (1, k, 4, p, a0, a1, a2, a3, a4, a5, q, b0, b1, b2, b3, b4, b5, m, c0, c1, c2, c3, c4, c5)) =
  (ifB (ltB 0 k) (need (inI 4 6) (need (nzI 4294967296) (need (nzI 4294967296) (need (inI 4 6) (ifB (ltB 0 (quoW IntKind.i64 (addW IntKind.i64 c4 k) 4294967296)) (need
    (inI 5 6) (need (nzI 4294967296) (need (nzI 4294967296) (need (inI 5 6) (eqIr 1 (eqIr (quoW IntKind.i64 (addW IntKind.i64 c5 (quoW IntKind.i64 (addW IntKind.i64
    c4 k) 4294967296)) 4294967296) (eqIr 6 (eqLr p (eqIr a0 (eqIr a1 (eqIr a2 (eqIr a3 (eqIr a4 (eqIr a5 (eqLr q (eqIr b0 (eqIr b1 (eqIr b2 (eqIr b3 (eqIr b4 (eqIr b5
    (eqLr false (eqIr 0 (eqIr 0 (eqIr 0 (eqIr 0 (eqIr 0 (eqIr 0 (eqLr m (eqIr c0 (eqIr c1 (eqIr c2 (eqIr c3 (eqIr (remI (addW IntKind.i64 c4 k) 4294967296) (eqIr (remI
    (addW IntKind.i64 c5 (quoW IntKind.i64 (addW IntKind.i64 c4 k) 4294967296)) 4294967296) (EE4 (1, quoW IntKind.i64 (addW IntKind.i64 c5 (quoW IntKind.i64 (addW IntKind.i64
    c4 k) 4294967296)) 4294967296, 6, p, a0, a1, a2, a3, a4, a5, q, b0, b1, b2, b3, b4, b5, m, c0, c1, c2, c3, remI (addW IntKind.i64 c4 k) 4294967296, remI (addW IntKind.i64
    c5 (quoW IntKind.i64 (addW IntKind.i64 c4 k) 4294967296)) 4294967296))))))))))))))))))))))))))))))))))))) (eqIr 1 (eqIr (quoW IntKind.i64 (addW IntKind.i64 c4 k)
    4294967296) (eqIr 5 (eqLr p (eqIr a0 (eqIr a1 (eqIr a2 (eqIr a3 (eqIr a4 (eqIr a5 (eqLr q (eqIr b0 (eqIr b1 (eqIr b2 (eqIr b3 (eqIr b4 (eqIr b5 (eqLr false (eqIr
    0 (eqIr 0 (eqIr 0 (eqIr 0 (eqIr 0 (eqIr 0 (eqLr m (eqIr c0 (eqIr c1 (eqIr c2 (eqIr c3 (eqIr (remI (addW IntKind.i64 c4 k) 4294967296) (eqIr c5 (EE4 (1, quoW IntKind.i64
    (addW IntKind.i64 c4 k) 4294967296, 5, p, a0, a1, a2, a3, a4, a5, q, b0, b1, b2, b3, b4, b5, m, c0, c1, c2, c3, remI (addW IntKind.i64 c4 k) 4294967296, c5))))))))))))))))))))))))))))))))))))))
    (eqIr 1 (eqIr k (eqIr 4 (eqLr p (eqIr a0 (eqIr a1 (eqIr a2 (eqIr a3 (eqIr a4 (eqIr a5 (eqLr q (eqIr b0 (eqIr b1 (eqIr b2 (eqIr b3 (eqIr b4 (eqIr b5 (eqLr false (eqIr
    0 (eqIr 0 (eqIr 0 (eqIr 0 (eqIr 0 (eqIr 0 (eqLr m (eqIr c0 (eqIr c1 (eqIr c2 (eqIr c3 (eqIr c4 (eqIr c5 (EE4 (1, k, 4, p, a0, a1, a2, a3, a4, a5, q, b0, b1, b2,
    b3, b4, b5, m, c0, c1, c2, c3, c4, c5)))))))))))))))))))))))))))))))))) := by kernel_rfl
theorem body_carry2 (EE4 RR : X_carry → Prop) (k : Int) (p : Bool) (a0 : Int) (a1 : Int) (a2 : Int) (a3 : Int) (a4 : Int) (a5 : Int) (q : Bool) (b0 : Int) (b1 : Int) (b2 : Int) (b3 : Int) (b4 : Int) (b5 : Int) (m : Bool) (c0 : Int) (c1 : Int) (c2 : Int) (c3 : Int) (c4 : Int) (c5 : Int) : awp tab fs_bcmp (acall tab fs_bcmp specs_halves fns 100 20) [] 100 (.loop (loopAt Try.f28 13)) (bodyN sh_carry sx_carry nx_carry (fun _ => False) (fun _ => 0) 0 ⟨[(4, EE4)], RR⟩) (sh_carry (2, k, 5, p, a0, a1, a2, a3, a4, a5, q, b0, b1, b2, b3, b4, b5, m, c0, c1, c2, c3, c4, c5)) =
  (ifB (ltB 0 k) (need (inI 5 6) (need (nzI 4294967296) (need (nzI 4294967296) (need (inI 5 6) (eqIr 2 (eqIr (quoW IntKind.i64 (addW IntKind.i64 c5 k) 4294967296) (eqIr
    6 (eqLr p (eqIr a0 (eqIr a1 (eqIr a2 (eqIr a3 (eqIr a4 (eqIr a5 (eqLr q (eqIr b0 (eqIr b1 (eqIr b2 (eqIr b3 (eqIr b4 (eqIr b5 (eqLr false (eqIr 0 (eqIr 0 (eqIr 0
    (eqIr 0 (eqIr 0 (eqIr 0 (eqLr m (eqIr c0 (eqIr c1 (eqIr c2 (eqIr c3 (eqIr c4 (eqIr (remI (addW IntKind.i64 c5 k) 4294967296) (EE4 (2, quoW IntKind.i64 (addW IntKind.i64
    c5 k) 4294967296, 6, p, a0, a1, a2, a3, a4, a5, q, b0, b1, b2, b3, b4, b5, m, c0, c1, c2, c3, c4, remI (addW IntKind.i64 c5 k) 4294967296)))))))))))))))))))))))))))))))))))))
    (eqIr 2 (eqIr k (eqIr 5 (eqLr p (eqIr a0 (eqIr a1 (eqIr a2 (eqIr a3 (eqIr a4 (eqIr a5 (eqLr q (eqIr b0 (eqIr b1 (eqIr b2 (eqIr b3 (eqIr b4 (eqIr b5 (eqLr false (eqIr
    0 (eqIr 0 (eqIr 0 (eqIr 0 (eqIr 0 (eqIr 0 (eqLr m (eqIr c0 (eqIr c1 (eqIr c2 (eqIr c3 (eqIr c4 (eqIr c5 (EE4 (2, k, 5, p, a0, a1, a2, a3, a4, a5, q, b0, b1, b2,
    b3, b4, b5, m, c0, c1, c2, c3, c4, c5)))))))))))))))))))))))))))))))))) := by kernel_rfl
theorem body_carry_ok : ∀ x, Pre_carry x → wfS (sh_carry x) → Hd (awp tab fs_bcmp (acall tab fs_bcmp specs_halves fns 100 20) [] 100 (.loop (loopAt Try.f28 13)) (bodyN sh_carry sx_carry nx_carry (fun _ => False) (fun _ => 0) 0 (D_carry x)) (sh_carry x)) := by
  rintro ⟨i0, k0, j0, p0, a00, a10, a20, a30, a40, a50, q0, b00, b10, b20, b30, b40, b50, m0, c00, c10, c20, c30, c40, c50⟩ hp hw
  obtain ⟨hc, hp⟩ := hp
  have hp : dgtB c00 c10 c20 c30 c40 c50 ∧ dgt1 k0 ∧ fitsB (magB c00 c10 c20 c30 c40 c50) (upK i0 k0) := hp
  unfold D_carry
  have hE4 : ∀ (k : Int) (j : Int) (c0 : Int) (c1 : Int) (c2 : Int) (c3 : Int) (c4 : Int) (c5 : Int), (dgtB c0 c1 c2 c3 c4 c5 ∧ magB c0 c1 c2 c3 c4 c5 = magB c00 c10 c20 c30 c40 c50 + upK i0 k0) → E4_carry (i0, k0, j0, p0, a00, a10, a20, a30, a40, a50, q0, b00, b10, b20, b30, b40, b50, m0, c00, c10, c20, c30, c40, c50) (i0, k, j, p0, a00, a10, a20, a30, a40, a50, q0, b00, b10, b20, b30, b40, b50, m0, c0, c1, c2, c3, c4, c5) := fun _ _ _ _ _ _ _ _ h => ⟨⟨rfl, rfl, rfl, rfl, rfl, rfl, rfl, rfl, rfl, rfl, rfl, rfl, rfl, rfl, rfl, rfl⟩, h⟩
  generalize E4_carry (i0, k0, j0, p0, a00, a10, a20, a30, a40, a50, q0, b00, b10, b20, b30, b40, b50, m0, c00, c10, c20, c30, c40, c50) = EE4 at hE4 ⊢
  generalize R_carry (i0, k0, j0, p0, a00, a10, a20, a30, a40, a50, q0, b00, b10, b20, b30, b40, b50, m0, c00, c10, c20, c30, c40, c50) = RR
  rcases hc with ⟨rfl, rfl⟩ | ⟨rfl, rfl⟩ | ⟨rfl, rfl⟩
  · rw [body_carry0]
    refine ⟨?_⟩
    have hu : upK 0 k0 = 79228162514264337593543950336 * k0 := rfl
    rw [hu] at hp hE4
    obtain ⟨hd, hk, hf⟩ := hp
    unfold dgt1 at hk
    unfold dgtB at hd
    unfold fitsB magB at hf
    obtain ⟨r3, l3, e3, f3, s3, g3, t3⟩ := step_car (c := c30) (k := k0) (by omega) (by omega)
    obtain ⟨r4, l4, e4, f4, s4, g4, t4⟩ := step_car (c := c40) (k := l3) (by omega) (by omega)
    obtain ⟨r5, l5, e5, f5, s5, g5, t5⟩ := step_car (c := c50) (k := l4) (by omega) (by omega)
    simp only [e3, f3, e4, f4, e5, f5]
    simp only [ifB_def, need_def, eqI_def, eqL_def, ltB_def, decide_eq_true_eq, decide_eq_false_iff_not, true_and]
    repeat' (first | (exact hE4 _ _ _ _ _ _ _ _ ⟨by unfold dgtB; omega, by unfold magB; omega⟩) | (unfold inI; omega) | (unfold nzI; omega) | refine ⟨?_, ?_⟩ | intro _)
  · rw [body_carry1]
    refine ⟨?_⟩
    have hu : upK 1 k0 = 340282366920938463463374607431768211456 * k0 := rfl
    rw [hu] at hp hE4
    obtain ⟨hd, hk, hf⟩ := hp
    unfold dgt1 at hk
    unfold dgtB at hd
    unfold fitsB magB at hf
    obtain ⟨r4, l4, e4, f4, s4, g4, t4⟩ := step_car (c := c40) (k := k0) (by omega) (by omega)
    obtain ⟨r5, l5, e5, f5, s5, g5, t5⟩ := step_car (c := c50) (k := l4) (by omega) (by omega)
    simp only [e4, f4, e5, f5]
    simp only [ifB_def, need_def, eqI_def, eqL_def, ltB_def, decide_eq_true_eq, decide_eq_false_iff_not, true_and]
    repeat' (first | (exact hE4 _ _ _ _ _ _ _ _ ⟨by unfold dgtB; omega, by unfold magB; omega⟩) | (unfold inI; omega) | (unfold nzI; omega) | refine ⟨?_, ?_⟩ | intro _)
  · rw [body_carry2]
    refine ⟨?_⟩
    have hu : upK 2 k0 = 1461501637330902918203684832716283019655932542976 * k0 := rfl
    rw [hu] at hp hE4
    obtain ⟨hd, hk, hf⟩ := hp
    unfold dgt1 at hk
    unfold dgtB at hd
    unfold fitsB magB at hf
    obtain ⟨r5, l5, e5, f5, s5, g5, t5⟩ := step_car (c := c50) (k := k0) (by omega) (by omega)
    simp only [e5, f5]
    simp only [ifB_def, need_def, eqI_def, eqL_def, ltB_def, decide_eq_true_eq, decide_eq_false_iff_not, true_and]
    repeat' (first | (exact hE4 _ _ _ _ _ _ _ _ ⟨by unfold dgtB; omega, by unfold magB; omega⟩) | (unfold inI; omega) | (unfold nzI; omega) | refine ⟨?_, ?_⟩ | intro _)
theorem summ_carry : SummOK Try.prog (loopAt Try.f28 13) S_carry :=
  summW_ok (L := []) (fuel := 100) tabOK fsOK_bcmp (mkCall fsOK_bcmp specsOK_halves fnsOK) (fun C => mkDraw fsOK_bcmp (mkCall fsOK_bcmp specsOK_halves fnsOK) C) loopsOK_nil body_carry_ok
theorem step_mul {a b c k lo hi : Int} (ha : 0 ≤ a ∧ a < 4294967296) (hb : 0 ≤ b ∧ b < 4294967296) (hc : 0 ≤ c ∧ c < 4294967296) (hk : 0 ≤ k ∧ k < 4294967296) (h : halfR a b lo hi) : ∃ r l, remI (addW .i64 (addW .i64 c lo) k) 4294967296 = r ∧ addW .i64 (quoW .i64 (addW .i64 (addW .i64 c lo) k) 4294967296) hi = l ∧ c + a * b + k = r + 4294967296 * l ∧ (0 ≤ r ∧ r < 4294967296) ∧ 0 ≤ l ∧ l < 4294967296 := by
  obtain ⟨h1, h2, h3⟩ := h
  have p2 : a * b ≤ 4294967295 * b := Int.mul_le_mul_of_nonneg_right (by omega) hb.1
  obtain ⟨P, hP⟩ : ∃ P, a * b = P := ⟨_, rfl⟩
  rw [hP] at h3 p2 ⊢
  rw [addW64 (a := c) (by omega) (by omega), addW64 (a := c + lo) (by omega) (by omega), quo_pos (by omega) (by omega) (by omega), rem_pos (by omega), addW64 (by omega) (by omega)]
  exact ⟨_, _, rfl, rfl, by omega, by omega, by omega, by omega⟩
def midK (i a0 a1 a2 b0 b1 b2 : Int) : Int := if i = 0 then a0 * b0 + 4294967296 * (a0 * b1) + 18446744073709551616 * (a0 * b2) else if i = 1 then 4294967296 * (a1 * b0) + 18446744073709551616 * (a1 * b1) + 79228162514264337593543950336 * (a1 * b2) else 18446744073709551616 * (a2 * b0) + 79228162514264337593543950336 * (a2 * b1) + 340282366920938463463374607431768211456 * (a2 * b2)
abbrev X_mulj := Int × Int × Int × Bool × Int × Int × Int × Int × Int × Int × Bool × Int × Int × Int × Int × Int × Int × Bool × Int × Int × Int × Int × Int × Int
def sh_mulj : X_mulj → St := fun x => match x with | (i, k, j, p, a0, a1, a2, a3, a4, a5, q, b0, b1, b2, b3, b4, b5, m, c0, c1, c2, c3, c4, c5) => ⟨setL (rep .bad 90) [(6, .int .i64 i), (7, .int .i64 k), (8, .int .i64 j), (2, .ptr 0 0), (3, .ptr 1 0), (4, .ptr 2 0), (5, .ptr 3 0)], [.var [.bool p, .int .i64 a0, .int .i64 a1, .int .i64 a2, .int .i64 a3, .int .i64 a4, .int .i64 a5], .var [.bool q, .int .i64 b0, .int .i64 b1, .int .i64 b2, .int .i64 b3, .int .i64 b4, .int .i64 b5], .var [.bool false, .int .i64 0, .int .i64 0, .int .i64 0, .int .i64 0, .int .i64 0, .int .i64 0], .var [.bool m, .int .i64 c0, .int .i64 c1, .int .i64 c2, .int .i64 c3, .int .i64 c4, .int .i64 c5]], [0, 1, 2, 3, 4, 5], [0, 1, 2, 3, 4, 5]⟩
def sx_mulj : AExit → X_mulj → St := fun _ => sh_mulj
def nx_mulj (σ : St) : X_mulj := (gI σ 6, gI σ 7, gI σ 8, cB σ 0 0, cI σ 0 1, cI σ 0 2, cI σ 0 3, cI σ 0 4, cI σ 0 5, cI σ 0 6, cB σ 1 0, cI σ 1 1, cI σ 1 2, cI σ 1 3, cI σ 1 4, cI σ 1 5, cI σ 1 6, cB σ 3 0, cI σ 3 1, cI σ 3 2, cI σ 3 3, cI σ 3 4, cI σ 3 5, cI σ 3 6)
def Pre_mulj : X_mulj → Prop := fun x => match x with | (i, k, j, p, a0, a1, a2, a3, a4, a5, q, b0, b1, b2, b3, b4, b5, m, c0, c1, c2, c3, c4, c5) => ((i = 0 ∧ k = 0 ∧ j = 0) ∨ (i = 1 ∧ k = 0 ∧ j = 0) ∨ (i = 2 ∧ k = 0 ∧ j = 0)) ∧ (dgtB c0 c1 c2 c3 c4 c5 ∧ dgt1 a0 ∧ dgt1 a1 ∧ dgt1 a2 ∧ dgt1 b0 ∧ dgt1 b1 ∧ dgt1 b2)
def E2_mulj : X_mulj → X_mulj → Prop := fun x y => match x, y with | (i0, k0, j0, p0, a00, a10, a20, a30, a40, a50, q0, b00, b10, b20, b30, b40, b50, m0, c00, c10, c20, c30, c40, c50), (i, k, j, p, a0, a1, a2, a3, a4, a5, q, b0, b1, b2, b3, b4, b5, m, c0, c1, c2, c3, c4, c5) => (i = i0 ∧ p = p0 ∧ a0 = a00 ∧ a1 = a10 ∧ a2 = a20 ∧ a3 = a30 ∧ a4 = a40 ∧ a5 = a50 ∧ q = q0 ∧ b0 = b00 ∧ b1 = b10 ∧ b2 = b20 ∧ b3 = b30 ∧ b4 = b40 ∧ b5 = b50 ∧ m = m0) ∧ (dgtB c0 c1 c2 c3 c4 c5 ∧ dgt1 k ∧ magB c0 c1 c2 c3 c4 c5 + upK i0 k = magB c00 c10 c20 c30 c40 c50 + midK i0 a00 a10 a20 b00 b10 b20)
def R_mulj : X_mulj → X_mulj → Prop := fun x y => match x, y with | (i0, k0, j0, p0, a00, a10, a20, a30, a40, a50, q0, b00, b10, b20, b30, b40, b50, m0, c00, c10, c20, c30, c40, c50), (i, k, j, p, a0, a1, a2, a3, a4, a5, q, b0, b1, b2, b3, b4, b5, m, c0, c1, c2, c3, c4, c5) => (i = i0 ∧ p = p0 ∧ a0 = a00 ∧ a1 = a10 ∧ a2 = a20 ∧ a3 = a30 ∧ a4 = a40 ∧ a5 = a50 ∧ q = q0 ∧ b0 = b00 ∧ b1 = b10 ∧ b2 = b20 ∧ b3 = b30 ∧ b4 = b40 ∧ b5 = b50 ∧ m = m0) ∧ (False)
def D_mulj : X_mulj → LEnds X_mulj := fun x => ⟨[(2, E2_mulj x)], R_mulj x⟩
noncomputable def S_mulj : Summ := summN sh_mulj sx_mulj nx_mulj Pre_mulj D_mulj
theorem body_mulj0 (EE2 RR : X_mulj → Prop) (p : Bool) (a0 : Int) (a1 : Int) (a2 : Int) (a3 : Int) (a4 : Int) (a5 : Int) (q : Bool) (b0 : Int) (b1 : Int) (b2 : Int) (b3 : Int) (b4 : Int) (b5 : Int) (m : Bool) (c0 : Int) (c1 : Int) (c2 : Int) (c3 : Int) (c4 : Int) (c5 : Int) : awp tab fs_bcmp (acall tab fs_bcmp specs_halves fns 100 20) [] 100 (.loop (loopAt Try.f28 7)) (bodyN sh_mulj sx_mulj nx_mulj (fun _ => False) (fun _ => 0) 0 ⟨[(2, EE2)], RR⟩) (sh_mulj (0, 0, 0, p, a0, a1, a2, a3, a4, a5, q, b0, b1, b2, b3, b4, b5, m, c0, c1, c2, c3, c4, c5)) =
  (need (inI 0 6) (need (inI 0 6) (eqIr 0 (need (inI 0 6) (eqIr a0 (eqIr 0 (need (inI 0 6) (eqIr b0 (need (dgt1 a0) (need (dgt1 b0) (∀ (lo hi : Int), halfR a0 b0 lo
    hi → eqIr 0 (need (inI 0 6) (eqIr 0 (need (inI 0 6) (eqIr lo (eqIr hi (eqIr lo (eqIr hi (eqIr hi (need (inI 0 6) (need (nzI 4294967296) (need (nzI 4294967296) (need
    (inI 0 6) (need (inI 0 6) (need (inI 1 6) (eqIr 0 (need (inI 0 6) (eqIr a0 (eqIr 1 (need (inI 1 6) (eqIr b1 (need (dgt1 a0) (need (dgt1 b1) (∀ (lo_1 hi_1 : Int),
    halfR a0 b1 lo_1 hi_1 → eqIr 0 (need (inI 0 6) (eqIr 1 (need (inI 1 6) (eqIr lo_1 (eqIr hi_1 (eqIr lo_1 (eqIr hi_1 (eqIr hi_1 (need (inI 1 6) (need (nzI 4294967296)
    (need (nzI 4294967296) (need (inI 1 6) (need (inI 0 6) (need (inI 2 6) (eqIr 0 (need (inI 0 6) (eqIr a0 (eqIr 2 (need (inI 2 6) (eqIr b2 (need (dgt1 a0) (need (dgt1
    b2) (∀ (lo_2 hi_2 : Int), halfR a0 b2 lo_2 hi_2 → eqIr 0 (need (inI 0 6) (eqIr 2 (need (inI 2 6) (eqIr lo_2 (eqIr hi_2 (eqIr lo_2 (eqIr hi_2 (eqIr hi_2 (need (inI
    2 6) (need (nzI 4294967296) (need (nzI 4294967296) (need (inI 2 6) (eqIr 0 (eqIr (addW IntKind.i64 (quoW IntKind.i64 (addW IntKind.i64 (addW IntKind.i64 c2 lo_2)
    (addW IntKind.i64 (quoW IntKind.i64 (addW IntKind.i64 (addW IntKind.i64 c1 lo_1) (addW IntKind.i64 (quoW IntKind.i64 (addW IntKind.i64 (addW IntKind.i64 c0 lo) 0)
    4294967296) hi)) 4294967296) hi_1)) 4294967296) hi_2) (eqIr 3 (eqLr p (eqIr a0 (eqIr a1 (eqIr a2 (eqIr a3 (eqIr a4 (eqIr a5 (eqLr q (eqIr b0 (eqIr b1 (eqIr b2 (eqIr
    b3 (eqIr b4 (eqIr b5 (eqLr false (eqIr 0 (eqIr 0 (eqIr 0 (eqIr 0 (eqIr 0 (eqIr 0 (eqLr m (eqIr (remI (addW IntKind.i64 (addW IntKind.i64 c0 lo) 0) 4294967296) (eqIr
    (remI (addW IntKind.i64 (addW IntKind.i64 c1 lo_1) (addW IntKind.i64 (quoW IntKind.i64 (addW IntKind.i64 (addW IntKind.i64 c0 lo) 0) 4294967296) hi)) 4294967296)
    (eqIr (remI (addW IntKind.i64 (addW IntKind.i64 c2 lo_2) (addW IntKind.i64 (quoW IntKind.i64 (addW IntKind.i64 (addW IntKind.i64 c1 lo_1) (addW IntKind.i64 (quoW
    IntKind.i64 (addW IntKind.i64 (addW IntKind.i64 c0 lo) 0) 4294967296) hi)) 4294967296) hi_1)) 4294967296) (eqIr c3 (eqIr c4 (eqIr c5 (EE2 (0, addW IntKind.i64 (quoW
    IntKind.i64 (addW IntKind.i64 (addW IntKind.i64 c2 lo_2) (addW IntKind.i64 (quoW IntKind.i64 (addW IntKind.i64 (addW IntKind.i64 c1 lo_1) (addW IntKind.i64 (quoW
    IntKind.i64 (addW IntKind.i64 (addW IntKind.i64 c0 lo) 0) 4294967296) hi)) 4294967296) hi_1)) 4294967296) hi_2, 3, p, a0, a1, a2, a3, a4, a5, q, b0, b1, b2, b3,
    b4, b5, m, remI (addW IntKind.i64 (addW IntKind.i64 c0 lo) 0) 4294967296, remI (addW IntKind.i64 (addW IntKind.i64 c1 lo_1) (addW IntKind.i64 (quoW IntKind.i64 (addW
    IntKind.i64 (addW IntKind.i64 c0 lo) 0) 4294967296) hi)) 4294967296, remI (addW IntKind.i64 (addW IntKind.i64 c2 lo_2) (addW IntKind.i64 (quoW IntKind.i64 (addW
    IntKind.i64 (addW IntKind.i64 c1 lo_1) (addW IntKind.i64 (quoW IntKind.i64 (addW IntKind.i64 (addW IntKind.i64 c0 lo) 0) 4294967296) hi)) 4294967296) hi_1)) 4294967296,
    c3, c4, c5)))))))))))))))))))))))))))))))))))))))))))))))))))))))))))))))))))))))))))))))))))))))))))))))))))))) := by kernel_rfl
theorem body_mulj1 (EE2 RR : X_mulj → Prop) (p : Bool) (a0 : Int) (a1 : Int) (a2 : Int) (a3 : Int) (a4 : Int) (a5 : Int) (q : Bool) (b0 : Int) (b1 : Int) (b2 : Int) (b3 : Int) (b4 : Int) (b5 : Int) (m : Bool) (c0 : Int) (c1 : Int) (c2 : Int) (c3 : Int) (c4 : Int) (c5 : Int) : awp tab fs_bcmp (acall tab fs_bcmp specs_halves fns 100 20) [] 100 (.loop (loopAt Try.f28 7)) (bodyN sh_mulj sx_mulj nx_mulj (fun _ => False) (fun _ => 0) 0 ⟨[(2, EE2)], RR⟩) (sh_mulj (1, 0, 0, p, a0, a1, a2, a3, a4, a5, q, b0, b1, b2, b3, b4, b5, m, c0, c1, c2, c3, c4, c5)) =
  (need (inI 1 6) (need (inI 0 6) (eqIr 1 (need (inI 1 6) (eqIr a1 (eqIr 0 (need (inI 0 6) (eqIr b0 (need (dgt1 a1) (need (dgt1 b0) (∀ (lo hi : Int), halfR a1 b0 lo
    hi → eqIr 1 (need (inI 1 6) (eqIr 0 (need (inI 0 6) (eqIr lo (eqIr hi (eqIr lo (eqIr hi (eqIr hi (need (inI 1 6) (need (nzI 4294967296) (need (nzI 4294967296) (need
    (inI 1 6) (need (inI 1 6) (need (inI 1 6) (eqIr 1 (need (inI 1 6) (eqIr a1 (eqIr 1 (need (inI 1 6) (eqIr b1 (need (dgt1 a1) (need (dgt1 b1) (∀ (lo_1 hi_1 : Int),
    halfR a1 b1 lo_1 hi_1 → eqIr 1 (need (inI 1 6) (eqIr 1 (need (inI 1 6) (eqIr lo_1 (eqIr hi_1 (eqIr lo_1 (eqIr hi_1 (eqIr hi_1 (need (inI 2 6) (need (nzI 4294967296)
    (need (nzI 4294967296) (need (inI 2 6) (need (inI 1 6) (need (inI 2 6) (eqIr 1 (need (inI 1 6) (eqIr a1 (eqIr 2 (need (inI 2 6) (eqIr b2 (need (dgt1 a1) (need (dgt1
    b2) (∀ (lo_2 hi_2 : Int), halfR a1 b2 lo_2 hi_2 → eqIr 1 (need (inI 1 6) (eqIr 2 (need (inI 2 6) (eqIr lo_2 (eqIr hi_2 (eqIr lo_2 (eqIr hi_2 (eqIr hi_2 (need (inI
    3 6) (need (nzI 4294967296) (need (nzI 4294967296) (need (inI 3 6) (eqIr 1 (eqIr (addW IntKind.i64 (quoW IntKind.i64 (addW IntKind.i64 (addW IntKind.i64 c3 lo_2)
    (addW IntKind.i64 (quoW IntKind.i64 (addW IntKind.i64 (addW IntKind.i64 c2 lo_1) (addW IntKind.i64 (quoW IntKind.i64 (addW IntKind.i64 (addW IntKind.i64 c1 lo) 0)
    4294967296) hi)) 4294967296) hi_1)) 4294967296) hi_2) (eqIr 3 (eqLr p (eqIr a0 (eqIr a1 (eqIr a2 (eqIr a3 (eqIr a4 (eqIr a5 (eqLr q (eqIr b0 (eqIr b1 (eqIr b2 (eqIr
    b3 (eqIr b4 (eqIr b5 (eqLr false (eqIr 0 (eqIr 0 (eqIr 0 (eqIr 0 (eqIr 0 (eqIr 0 (eqLr m (eqIr c0 (eqIr (remI (addW IntKind.i64 (addW IntKind.i64 c1 lo) 0) 4294967296)
    (eqIr (remI (addW IntKind.i64 (addW IntKind.i64 c2 lo_1) (addW IntKind.i64 (quoW IntKind.i64 (addW IntKind.i64 (addW IntKind.i64 c1 lo) 0) 4294967296) hi)) 4294967296)
    (eqIr (remI (addW IntKind.i64 (addW IntKind.i64 c3 lo_2) (addW IntKind.i64 (quoW IntKind.i64 (addW IntKind.i64 (addW IntKind.i64 c2 lo_1) (addW IntKind.i64 (quoW
    IntKind.i64 (addW IntKind.i64 (addW IntKind.i64 c1 lo) 0) 4294967296) hi)) 4294967296) hi_1)) 4294967296) (eqIr c4 (eqIr c5 (EE2 (1, addW IntKind.i64 (quoW IntKind.i64
    (addW IntKind.i64 (addW IntKind.i64 c3 lo_2) (addW IntKind.i64 (quoW IntKind.i64 (addW IntKind.i64 (addW IntKind.i64 c2 lo_1) (addW IntKind.i64 (quoW IntKind.i64
    (addW IntKind.i64 (addW IntKind.i64 c1 lo) 0) 4294967296) hi)) 4294967296) hi_1)) 4294967296) hi_2, 3, p, a0, a1, a2, a3, a4, a5, q, b0, b1, b2, b3, b4, b5, m, c0,
    remI (addW IntKind.i64 (addW IntKind.i64 c1 lo) 0) 4294967296, remI (addW IntKind.i64 (addW IntKind.i64 c2 lo_1) (addW IntKind.i64 (quoW IntKind.i64 (addW IntKind.i64
    (addW IntKind.i64 c1 lo) 0) 4294967296) hi)) 4294967296, remI (addW IntKind.i64 (addW IntKind.i64 c3 lo_2) (addW IntKind.i64 (quoW IntKind.i64 (addW IntKind.i64
    (addW IntKind.i64 c2 lo_1) (addW IntKind.i64 (quoW IntKind.i64 (addW IntKind.i64 (addW IntKind.i64 c1 lo) 0) 4294967296) hi)) 4294967296) hi_1)) 4294967296, c4,
    c5)))))))))))))))))))))))))))))))))))))))))))))))))))))))))))))))))))))))))))))))))))))))))))))))))))))) := by kernel_rfl
theorem body_mulj2 (EE2 RR : X_mulj → Prop) (p : Bool) (a0 : Int) (a1 : Int) (a2 : Int) (a3 : Int) (a4 : Int) (a5 : Int) (q : Bool) (b0 : Int) (b1 : Int) (b2 : Int) (b3 : Int) (b4 : Int) (b5 : Int) (m : Bool) (c0 : Int) (c1 : Int) (c2 : Int) (c3 : Int) (c4 : Int) (c5 : Int) : awp tab fs_bcmp (acall tab fs_bcmp specs_halves fns 100 20) [] 100 (.loop (loopAt Try.f28 7)) (bodyN sh_mulj sx_mulj nx_mulj (fun _ => False) (fun _ => 0) 0 ⟨[(2, EE2)], RR⟩) (sh_mulj (2, 0, 0, p, a0, a1, a2, a3, a4, a5, q, b0, b1, b2, b3, b4, b5, m, c0, c1, c2, c3, c4, c5)) =
  (need (inI 2 6) (need (inI 0 6) (eqIr 2 (need (inI 2 6) (eqIr a2 (eqIr 0 (need (inI 0 6) (eqIr b0 (need (dgt1 a2) (need (dgt1 b0) (∀ (lo hi : Int), halfR a2 b0 lo
    hi → eqIr 2 (need (inI 2 6) (eqIr 0 (need (inI 0 6) (eqIr lo (eqIr hi (eqIr lo (eqIr hi (eqIr hi (need (inI 2 6) (need (nzI 4294967296) (need (nzI 4294967296) (need
    (inI 2 6) (need (inI 2 6) (need (inI 1 6) (eqIr 2 (need (inI 2 6) (eqIr a2 (eqIr 1 (need (inI 1 6) (eqIr b1 (need (dgt1 a2) (need (dgt1 b1) (∀ (lo_1 hi_1 : Int),
    halfR a2 b1 lo_1 hi_1 → eqIr 2 (need (inI 2 6) (eqIr 1 (need (inI 1 6) (eqIr lo_1 (eqIr hi_1 (eqIr lo_1 (eqIr hi_1 (eqIr hi_1 (need (inI 3 6) (need (nzI 4294967296)
    (need (nzI 4294967296) (need (inI 3 6) (need (inI 2 6) (need (inI 2 6) (eqIr 2 (need (inI 2 6) (eqIr a2 (eqIr 2 (need (inI 2 6) (eqIr b2 (need (dgt1 a2) (need (dgt1
    b2) (∀ (lo_2 hi_2 : Int), halfR a2 b2 lo_2 hi_2 → eqIr 2 (need (inI 2 6) (eqIr 2 (need (inI 2 6) (eqIr lo_2 (eqIr hi_2 (eqIr lo_2 (eqIr hi_2 (eqIr hi_2 (need (inI
    4 6) (need (nzI 4294967296) (need (nzI 4294967296) (need (inI 4 6) (eqIr 2 (eqIr (addW IntKind.i64 (quoW IntKind.i64 (addW IntKind.i64 (addW IntKind.i64 c4 lo_2)
    (addW IntKind.i64 (quoW IntKind.i64 (addW IntKind.i64 (addW IntKind.i64 c3 lo_1) (addW IntKind.i64 (quoW IntKind.i64 (addW IntKind.i64 (addW IntKind.i64 c2 lo) 0)
    4294967296) hi)) 4294967296) hi_1)) 4294967296) hi_2) (eqIr 3 (eqLr p (eqIr a0 (eqIr a1 (eqIr a2 (eqIr a3 (eqIr a4 (eqIr a5 (eqLr q (eqIr b0 (eqIr b1 (eqIr b2 (eqIr
    b3 (eqIr b4 (eqIr b5 (eqLr false (eqIr 0 (eqIr 0 (eqIr 0 (eqIr 0 (eqIr 0 (eqIr 0 (eqLr m (eqIr c0 (eqIr c1 (eqIr (remI (addW IntKind.i64 (addW IntKind.i64 c2 lo)
    0) 4294967296) (eqIr (remI (addW IntKind.i64 (addW IntKind.i64 c3 lo_1) (addW IntKind.i64 (quoW IntKind.i64 (addW IntKind.i64 (addW IntKind.i64 c2 lo) 0) 4294967296)
    hi)) 4294967296) (eqIr (remI (addW IntKind.i64 (addW IntKind.i64 c4 lo_2) (addW IntKind.i64 (quoW IntKind.i64 (addW IntKind.i64 (addW IntKind.i64 c3 lo_1) (addW
    IntKind.i64 (quoW IntKind.i64 (addW IntKind.i64 (addW IntKind.i64 c2 lo) 0) 4294967296) hi)) 4294967296) hi_1)) 4294967296) (eqIr c5 (EE2 (2, addW IntKind.i64 (quoW
    IntKind.i64 (addW IntKind.i64 (addW IntKind.i64 c4 lo_2) (addW IntKind.i64 (quoW IntKind.i64 (addW IntKind.i64 (addW IntKind.i64 c3 lo_1) (addW IntKind.i64 (quoW
    IntKind.i64 (addW IntKind.i64 (addW IntKind.i64 c2 lo) 0) 4294967296) hi)) 4294967296) hi_1)) 4294967296) hi_2, 3, p, a0, a1, a2, a3, a4, a5, q, b0, b1, b2, b3,
    b4, b5, m, c0, c1, remI (addW IntKind.i64 (addW IntKind.i64 c2 lo) 0) 4294967296, remI (addW IntKind.i64 (addW IntKind.i64 c3 lo_1) (addW IntKind.i64 (quoW IntKind.i64
    (addW IntKind.i64 (addW IntKind.i64 c2 lo) 0) 4294967296) hi)) 4294967296, remI (addW IntKind.i64 (addW IntKind.i64 c4 lo_2) (addW IntKind.i64 (quoW IntKind.i64
    (addW IntKind.i64 (addW IntKind.i64 c3 lo_1) (addW IntKind.i64 (quoW IntKind.i64 (addW IntKind.i64 (addW IntKind.i64 c2 lo) 0) 4294967296) hi)) 4294967296) hi_1))
    4294967296, c5)))))))))))))))))))))))))))))))))))))))))))))))))))))))))))))))))))))))))))))))))))))))))))))))))))))) := by kernel_rfl
theorem body_mulj_ok : ∀ x, Pre_mulj x → wfS (sh_mulj x) → Hd (awp tab fs_bcmp (acall tab fs_bcmp specs_halves fns 100 20) [] 100 (.loop (loopAt Try.f28 7)) (bodyN sh_mulj sx_mulj nx_mulj (fun _ => False) (fun _ => 0) 0 (D_mulj x)) (sh_mulj x)) := by
  rintro ⟨i0, k0, j0, p0, a00, a10, a20, a30, a40, a50, q0, b00, b10, b20, b30, b40, b50, m0, c00, c10, c20, c30, c40, c50⟩ hp hw
  obtain ⟨hc, hp⟩ := hp
  have hp : dgtB c00 c10 c20 c30 c40 c50 ∧ dgt1 a00 ∧ dgt1 a10 ∧ dgt1 a20 ∧ dgt1 b00 ∧ dgt1 b10 ∧ dgt1 b20 := hp
  unfold D_mulj
  have hE2 : ∀ (k : Int) (j : Int) (c0 : Int) (c1 : Int) (c2 : Int) (c3 : Int) (c4 : Int) (c5 : Int), (dgtB c0 c1 c2 c3 c4 c5 ∧ dgt1 k ∧ magB c0 c1 c2 c3 c4 c5 + upK i0 k = magB c00 c10 c20 c30 c40 c50 + midK i0 a00 a10 a20 b00 b10 b20) → E2_mulj (i0, k0, j0, p0, a00, a10, a20, a30, a40, a50, q0, b00, b10, b20, b30, b40, b50, m0, c00, c10, c20, c30, c40, c50) (i0, k, j, p0, a00, a10, a20, a30, a40, a50, q0, b00, b10, b20, b30, b40, b50, m0, c0, c1, c2, c3, c4, c5) := fun _ _ _ _ _ _ _ _ h => ⟨⟨rfl, rfl, rfl, rfl, rfl, rfl, rfl, rfl, rfl, rfl, rfl, rfl, rfl, rfl, rfl, rfl⟩, h⟩
  generalize E2_mulj (i0, k0, j0, p0, a00, a10, a20, a30, a40, a50, q0, b00, b10, b20, b30, b40, b50, m0, c00, c10, c20, c30, c40, c50) = EE2 at hE2 ⊢
  generalize R_mulj (i0, k0, j0, p0, a00, a10, a20, a30, a40, a50, q0, b00, b10, b20, b30, b40, b50, m0, c00, c10, c20, c30, c40, c50) = RR
  rcases hc with ⟨rfl, rfl, rfl⟩ | ⟨rfl, rfl, rfl⟩ | ⟨rfl, rfl, rfl⟩
  · rw [body_mulj0]
    refine ⟨?_⟩
    obtain ⟨hd, w0, w1, w2, x0, x1, x2⟩ := hp
    have w0' := w0
    have w1' := w1
    have w2' := w2
    have x0' := x0
    have x1' := x1
    have x2' := x2
    unfold dgt1 at w0 w1 w2 x0 x1 x2
    unfold dgtB at hd
    simp only [ifB_def, need_def, eqI_def, eqL_def, ltB_def, decide_eq_true_eq, decide_eq_false_iff_not, true_and]
    have j0 : inI 0 6 := by unfold inI; omega
    have j1 : inI 1 6 := by unfold inI; omega
    have j2 : inI 2 6 := by unfold inI; omega
    have j3 : inI 3 6 := by unfold inI; omega
    have j4 : inI 4 6 := by unfold inI; omega
    have hz : nzI 4294967296 := by unfold nzI; omega
    have hu : ∀ k, upK 0 k = 79228162514264337593543950336 * k := fun _ => rfl
    have hm : midK 0 a00 a10 a20 b00 b10 b20 = a00 * b00 + 4294967296 * (a00 * b10) + 18446744073709551616 * (a00 * b20) := rfl
    simp only [j0, j1, j2, j3, j4, hz, w0', w1', w2', x0', x1', x2', true_and]
    intro lo hi q1 lo1 hi1 q2 lo2 hi2 q3
    obtain ⟨r1, l1, e1, f1, s1, g1, t1⟩ := step_mul (a := a00) (b := b00) (c := c00) (k := 0) (by omega) (by omega) (by omega) (by omega) q1
    obtain ⟨r2, l2, e2, f2, s2, g2, t2⟩ := step_mul (a := a00) (b := b10) (c := c10) (k := l1) (by omega) (by omega) (by omega) (by omega) q2
    obtain ⟨r3, l3, e3, f3, s3, g3, t3⟩ := step_mul (a := a00) (b := b20) (c := c20) (k := l2) (by omega) (by omega) (by omega) (by omega) q3
    simp only [e1, f1, e2, f2, e3, f3]
    exact hE2 _ _ _ _ _ _ _ _ ⟨by unfold dgtB; omega, by unfold dgt1; omega, by rw [hu, hm]; unfold magB; omega⟩
  · rw [body_mulj1]
    refine ⟨?_⟩
    obtain ⟨hd, w0, w1, w2, x0, x1, x2⟩ := hp
    have w0' := w0
    have w1' := w1
    have w2' := w2
    have x0' := x0
    have x1' := x1
    have x2' := x2
    unfold dgt1 at w0 w1 w2 x0 x1 x2
    unfold dgtB at hd
    simp only [ifB_def, need_def, eqI_def, eqL_def, ltB_def, decide_eq_true_eq, decide_eq_false_iff_not, true_and]
    have j0 : inI 0 6 := by unfold inI; omega
    have j1 : inI 1 6 := by unfold inI; omega
    have j2 : inI 2 6 := by unfold inI; omega
    have j3 : inI 3 6 := by unfold inI; omega
    have j4 : inI 4 6 := by unfold inI; omega
    have hz : nzI 4294967296 := by unfold nzI; omega
    have hu : ∀ k, upK 1 k = 340282366920938463463374607431768211456 * k := fun _ => rfl
    have hm : midK 1 a00 a10 a20 b00 b10 b20 = 4294967296 * (a10 * b00) + 18446744073709551616 * (a10 * b10) + 79228162514264337593543950336 * (a10 * b20) := rfl
    simp only [j0, j1, j2, j3, j4, hz, w0', w1', w2', x0', x1', x2', true_and]
    intro lo hi q1 lo1 hi1 q2 lo2 hi2 q3
    obtain ⟨r1, l1, e1, f1, s1, g1, t1⟩ := step_mul (a := a10) (b := b00) (c := c10) (k := 0) (by omega) (by omega) (by omega) (by omega) q1
    obtain ⟨r2, l2, e2, f2, s2, g2, t2⟩ := step_mul (a := a10) (b := b10) (c := c20) (k := l1) (by omega) (by omega) (by omega) (by omega) q2
    obtain ⟨r3, l3, e3, f3, s3, g3, t3⟩ := step_mul (a := a10) (b := b20) (c := c30) (k := l2) (by omega) (by omega) (by omega) (by omega) q3
    simp only [e1, f1, e2, f2, e3, f3]
    exact hE2 _ _ _ _ _ _ _ _ ⟨by unfold dgtB; omega, by unfold dgt1; omega, by rw [hu, hm]; unfold magB; omega⟩
  · rw [body_mulj2]
    refine ⟨?_⟩
    obtain ⟨hd, w0, w1, w2, x0, x1, x2⟩ := hp
    have w0' := w0
    have w1' := w1
    have w2' := w2
    have x0' := x0
    have x1' := x1
    have x2' := x2
    unfold dgt1 at w0 w1 w2 x0 x1 x2
    unfold dgtB at hd
    simp only [ifB_def, need_def, eqI_def, eqL_def, ltB_def, decide_eq_true_eq, decide_eq_false_iff_not, true_and]
    have j0 : inI 0 6 := by unfold inI; omega
    have j1 : inI 1 6 := by unfold inI; omega
    have j2 : inI 2 6 := by unfold inI; omega
    have j3 : inI 3 6 := by unfold inI; omega
    have j4 : inI 4 6 := by unfold inI; omega
    have hz : nzI 4294967296 := by unfold nzI; omega
    have hu : ∀ k, upK 2 k = 1461501637330902918203684832716283019655932542976 * k := fun _ => rfl
    have hm : midK 2 a00 a10 a20 b00 b10 b20 = 18446744073709551616 * (a20 * b00) + 79228162514264337593543950336 * (a20 * b10) + 340282366920938463463374607431768211456 * (a20 * b20) := rfl
    simp only [j0, j1, j2, j3, j4, hz, w0', w1', w2', x0', x1', x2', true_and]
    intro lo hi q1 lo1 hi1 q2 lo2 hi2 q3
    obtain ⟨r1, l1, e1, f1, s1, g1, t1⟩ := step_mul (a := a20) (b := b00) (c := c20) (k := 0) (by omega) (by omega) (by omega) (by omega) q1
    obtain ⟨r2, l2, e2, f2, s2, g2, t2⟩ := step_mul (a := a20) (b := b10) (c := c30) (k := l1) (by omega) (by omega) (by omega) (by omega) q2
    obtain ⟨r3, l3, e3, f3, s3, g3, t3⟩ := step_mul (a := a20) (b := b20) (c := c40) (k := l2) (by omega) (by omega) (by omega) (by omega) q3
    simp only [e1, f1, e2, f2, e3, f3]
    exact hE2 _ _ _ _ _ _ _ _ ⟨by unfold dgtB; omega, by unfold dgt1; omega, by rw [hu, hm]; unfold magB; omega⟩
theorem summ_mulj : SummOK Try.prog (loopAt Try.f28 7) S_mulj :=
  summW_ok (L := []) (fuel := 100) tabOK fsOK_bcmp (mkCall fsOK_bcmp specsOK_halves fnsOK) (fun C => mkDraw fsOK_bcmp (mkCall fsOK_bcmp specsOK_halves fnsOK) C) loopsOK_nil body_mulj_ok
end Go.Proofs.Ytmdjpohmbkodeaa.Sx

