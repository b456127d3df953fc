/- Ytgifbceiaibejaa: the law RingCounts returns true for every input, and its arguments read as they did: no condition. -/
import Derived.Test.YtgifbceiaibejaaRows
import Derived.Test.YtgifbceiaibejaaSxV
import Derived.Test.YtgifbceiaibejaaSmRingC
import Derived.HandedShaped
namespace Go.Proofs.Ytgifbceiaibejaa
open Go.ChangeShapes Go.WideShapes Go.ChangeAt Go.RowKit Sx
set_option maxRecDepth 100000
set_option linter.unusedVariables false
set_option linter.unusedSimpArgs false
set_option maxHeartbeats 4000000

@[reducible] def OpT : Ty := .prod (.int .i64) (.prod (.int .i64) (.list (.int .i64)))
theorem eqB_self (a : Int) : eqB a a = true := eqB_t.2 rfl
theorem upG_ok {most : Int} : ∀ {l : List Int} {now : Int}, 0 ≤ now ∧ now ≤ most → 0 ≤ upG most now l ∧ upG most now l ≤ most
  | [], now, h => h
  | n :: l, now, h => by
    simp only [upG]
    exact upG_ok (by split <;> omega)
theorem upF_ok {most now : Int} {l : List Int} (h : 0 ≤ now ∧ now ≤ most) : 0 ≤ upF most now l ∧ upF most now l ≤ most := upG_ok h
abbrev X_counts := Int × List (den OpT) × Int × Int × Int × Int × Int × Bool
def sh_counts : X_counts → St := fun x => match x with | (most, l, i, now, most1, rnow, most2, r) => ⟨setL (rep .bad 103) [(0, .int .i64 most), (1, .view [] OpT l), (8, .int .i64 i), (5, .ptr 0 0), (7, .ptr 1 0)], [.var [.int .i64 now, .int .i64 most1], .var [.int .i64 rnow, .int .i64 most2]], [0, 1], [0, 1]⟩
def shr_counts : X_counts → St := fun x => match x with | (most, l, i, now, most1, rnow, most2, r) => ⟨setL (rep .bad 103) [(0, .int .i64 most), (1, .view [] OpT l), (8, .int .i64 i), (4, .bool r), (5, .ptr 0 0), (7, .ptr 1 0)], [.var [.int .i64 now, .int .i64 most1], .var [.int .i64 rnow, .int .i64 most2]], [0, 1], [0, 1]⟩
def sx_counts : AExit → X_counts → St := fun e => match e with | .ret => shr_counts | _ => sh_counts
def nx_counts (σ : St) : X_counts := (gI σ 0, gV OpT σ 1, gI σ 8, cI σ 0 0, cI σ 0 1, cI σ 1 0, cI σ 1 1, gB σ 4)
def Pre_counts : X_counts → Prop := fun x => match x with | (most, l, i, now, most1, rnow, most2, r) => i = 0 ∧ now = 0 ∧ rnow = 0 ∧ most1 = most ∧ most2 = most ∧ (0 ≤ most ∧ most ≤ 9223372036854775807) ∧ lenI l ≤ 200
def E0_counts : X_counts → X_counts → Prop := fun x y => match x, y with | (most0, l0, i0, now0, most10, rnow0, most20, r0), (most, l, i, now, most1, rnow, most2, r) => (most = most0 ∧ l = l0 ∧ most1 = most10 ∧ most2 = most20) ∧ (True)
def R_counts : X_counts → X_counts → Prop := fun x y => match x, y with | (most0, l0, i0, now0, most10, rnow0, most20, r0), (most, l, i, now, most1, rnow, most2, r) => (most = most0 ∧ l = l0 ∧ most1 = most10 ∧ most2 = most20) ∧ (r = true)
def D_counts : X_counts → LEnds X_counts := fun x => ⟨[(0, E0_counts x)], R_counts x⟩
noncomputable def S_counts : Summ := summN sh_counts sx_counts nx_counts Pre_counts D_counts
def Inv_counts : X_counts → X_counts → Prop := fun x y => match x, y with | (most0, l0, i0, now0, most10, rnow0, most20, r0), (most, l, i, now, most1, rnow, most2, r) => (most = most0 ∧ l = l0 ∧ most1 = most10 ∧ most2 = most20) ∧ ((0 ≤ i ∧ i ≤ lenI l) ∧ now = rnow ∧ 0 ≤ now ∧ now ≤ most)
def M_counts : X_counts → X_counts → Nat := fun x y => match x, y with | (most0, l0, i0, now0, most10, rnow0, most20, r0), (most, l, i, now, most1, rnow, most2, r) => (lenI l - i).toNat
theorem body_counts (Inv : X_counts → Prop) (meas : X_counts → Nat) (nn : Nat) (EE0 RR : X_counts → Prop) (most : Int) (l : List (den OpT)) (i : Int) (now : Int) (most1 : Int) (rnow : Int) (most2 : Int) (r : Bool) : awp tab fs_alive (acall tab fs_alive specs_rup fns 100 20) [] 100 (loopAt Try.f6 12) (bodyN sh_counts sx_counts nx_counts Inv meas nn ⟨[(0, EE0)], RR⟩) (sh_counts (most, l, i, now, most1, rnow, most2, r)) =
  (ifB (ltB i (lenI l)) (need (inI i (lenI l)) (ifB (ltB 100 (lenI (nth OpT l i).snd.snd)) (eqI most most (eqD l l (eqL true true (eqI i i (eqI now now (eqI most1 most1
    (eqI rnow rnow (eqI most2 most2 (RR (most, l, i, now, most1, rnow, most2, true)))))))))) (need (inI i (lenI l)) (ifB (eqB (nth OpT l i).fst 3) (eqI 0 0 (eqI 0 0
    (eqL false false (eqL false false (eqI most most (eqI 0 0 (eqL false false (eqI most most (eqL (ltB most 0) (ltB most 0) (eqL (ltB most 0) (ltB most 0) (ifB (ltB
    most 0) (eqI most most (eqD l l (eqL false false (eqI i i (eqI 0 0 (eqI most1 most1 (eqI 0 0 (eqI most2 most2 (RR (most, l, i, 0, most1, 0, most2, false))))))))))
    (eqI most most (eqD l l (eqI (addW IntKind.i64 i 1) (addW IntKind.i64 i 1) (eqI 0 0 (eqI most1 most1 (eqI 0 0 (eqI most2 most2 (Inv (most, l, addW IntKind.i64 i
    1, 0, most1, 0, most2, false) ∧ meas (most, l, addW IntKind.i64 i 1, 0, most1, 0, most2, false) < nn))))))))))))))))))) (need (inI i (lenI l)) (need (inI i (lenI
    l)) (need (AV.view (@List.nil Nat) OpT l = AV.view (@List.nil Nat) OpT l) (eqI i i (need (inI i (lenI l)) (need (AV.vptr (@List.nil Nat) (AV.int IntKind.i64 (nth
    OpT l i).fst :: AV.int IntKind.i64 (nth OpT l i).snd.fst :: AV.view (@List.nil Nat) (Ty.int IntKind.i64) (nth OpT l i).snd.snd :: @List.nil AV) = AV.vptr (@List.nil
    Nat) (AV.int IntKind.i64 (nth OpT l i).fst :: AV.int IntKind.i64 (nth OpT l i).snd.fst :: AV.view (@List.nil Nat) (Ty.int IntKind.i64) (nth OpT l i).snd.snd :: @List.nil
    AV)) (need (AV.vptr (@List.nil Nat) (AV.view (@List.nil Nat) (Ty.int IntKind.i64) (nth OpT l i).snd.snd :: @List.nil AV) = AV.vptr (@List.nil Nat) (AV.view (@List.nil
    Nat) (Ty.int IntKind.i64) (nth OpT l i).snd.snd :: @List.nil AV)) (need (AV.view (@List.nil Nat) (Ty.int IntKind.i64) (nth OpT l i).snd.snd = AV.view (@List.nil
    Nat) (Ty.int IntKind.i64) (nth OpT l i).snd.snd) (need (AV.view (@List.nil Nat) OpT l = AV.view (@List.nil Nat) OpT l) (eqI i i (need (inI i (lenI l)) (need (AV.vptr
    (@List.nil Nat) (AV.int IntKind.i64 (nth OpT l i).fst :: AV.int IntKind.i64 (nth OpT l i).snd.fst :: AV.view (@List.nil Nat) (Ty.int IntKind.i64) (nth OpT l i).snd.snd
    :: @List.nil AV) = AV.vptr (@List.nil Nat) (AV.int IntKind.i64 (nth OpT l i).fst :: AV.int IntKind.i64 (nth OpT l i).snd.fst :: AV.view (@List.nil Nat) (Ty.int IntKind.i64)
    (nth OpT l i).snd.snd :: @List.nil AV)) (need (AV.vptr (@List.nil Nat) (AV.view (@List.nil Nat) (Ty.int IntKind.i64) (nth OpT l i).snd.snd :: @List.nil AV) = AV.vptr
    (@List.nil Nat) (AV.view (@List.nil Nat) (Ty.int IntKind.i64) (nth OpT l i).snd.snd :: @List.nil AV)) (need (AV.view (@List.nil Nat) (Ty.int IntKind.i64) (nth OpT
    l i).snd.snd = AV.view (@List.nil Nat) (Ty.int IntKind.i64) (nth OpT l i).snd.snd) (need (okN now most1) (need (lenOK (lenI (nth OpT l i).snd.snd)) (need (AV.view
    (@List.nil Nat) OpT l = AV.view (@List.nil Nat) OpT l) (eqI i i (need (inI i (lenI l)) (need (AV.vptr (@List.nil Nat) (AV.int IntKind.i64 (nth OpT l i).fst :: AV.int
    IntKind.i64 (nth OpT l i).snd.fst :: AV.view (@List.nil Nat) (Ty.int IntKind.i64) (nth OpT l i).snd.snd :: @List.nil AV) = AV.vptr (@List.nil Nat) (AV.int IntKind.i64
    (nth OpT l i).fst :: AV.int IntKind.i64 (nth OpT l i).snd.fst :: AV.view (@List.nil Nat) (Ty.int IntKind.i64) (nth OpT l i).snd.snd :: @List.nil AV)) (need (AV.vptr
    (@List.nil Nat) (AV.view (@List.nil Nat) (Ty.int IntKind.i64) (nth OpT l i).snd.snd :: @List.nil AV) = AV.vptr (@List.nil Nat) (AV.view (@List.nil Nat) (Ty.int IntKind.i64)
    (nth OpT l i).snd.snd :: @List.nil AV)) (need (AV.view (@List.nil Nat) OpT l = AV.view (@List.nil Nat) OpT l) (eqI i i (need (inI i (lenI l)) (need (AV.vptr (@List.nil
    Nat) (AV.int IntKind.i64 (nth OpT l i).fst :: AV.int IntKind.i64 (nth OpT l i).snd.fst :: AV.view (@List.nil Nat) (Ty.int IntKind.i64) (nth OpT l i).snd.snd :: @List.nil
    AV) = AV.vptr (@List.nil Nat) (AV.int IntKind.i64 (nth OpT l i).fst :: AV.int IntKind.i64 (nth OpT l i).snd.fst :: AV.view (@List.nil Nat) (Ty.int IntKind.i64) (nth
    OpT l i).snd.snd :: @List.nil AV)) (need (AV.vptr (@List.nil Nat) (AV.view (@List.nil Nat) (Ty.int IntKind.i64) (nth OpT l i).snd.snd :: @List.nil AV) = AV.vptr
    (@List.nil Nat) (AV.view (@List.nil Nat) (Ty.int IntKind.i64) (nth OpT l i).snd.snd :: @List.nil AV)) (need (AV.view (@List.nil Nat) (Ty.int IntKind.i64) (nth OpT
    l i).snd.snd = AV.view (@List.nil Nat) (Ty.int IntKind.i64) (nth OpT l i).snd.snd) (need (okN rnow most2) (need (lenOK (lenI (nth OpT l i).snd.snd)) (need (AV.view
    (@List.nil Nat) OpT l = AV.view (@List.nil Nat) OpT l) (eqI i i (need (inI i (lenI l)) (need (AV.vptr (@List.nil Nat) (AV.int IntKind.i64 (nth OpT l i).fst :: AV.int
    IntKind.i64 (nth OpT l i).snd.fst :: AV.view (@List.nil Nat) (Ty.int IntKind.i64) (nth OpT l i).snd.snd :: @List.nil AV) = AV.vptr (@List.nil Nat) (AV.int IntKind.i64
    (nth OpT l i).fst :: AV.int IntKind.i64 (nth OpT l i).snd.fst :: AV.view (@List.nil Nat) (Ty.int IntKind.i64) (nth OpT l i).snd.snd :: @List.nil AV)) (need (AV.vptr
    (@List.nil Nat) (AV.view (@List.nil Nat) (Ty.int IntKind.i64) (nth OpT l i).snd.snd :: @List.nil AV) = AV.vptr (@List.nil Nat) (AV.view (@List.nil Nat) (Ty.int IntKind.i64)
    (nth OpT l i).snd.snd :: @List.nil AV)) (need (AV.view (@List.nil Nat) OpT l = AV.view (@List.nil Nat) OpT l) (eqI i i (need (inI i (lenI l)) (need (AV.vptr (@List.nil
    Nat) (AV.int IntKind.i64 (nth OpT l i).fst :: AV.int IntKind.i64 (nth OpT l i).snd.fst :: AV.view (@List.nil Nat) (Ty.int IntKind.i64) (nth OpT l i).snd.snd :: @List.nil
    AV) = AV.vptr (@List.nil Nat) (AV.int IntKind.i64 (nth OpT l i).fst :: AV.int IntKind.i64 (nth OpT l i).snd.fst :: AV.view (@List.nil Nat) (Ty.int IntKind.i64) (nth
    OpT l i).snd.snd :: @List.nil AV)) (need (AV.vptr (@List.nil Nat) (AV.view (@List.nil Nat) (Ty.int IntKind.i64) (nth OpT l i).snd.snd :: @List.nil AV) = AV.vptr
    (@List.nil Nat) (AV.view (@List.nil Nat) (Ty.int IntKind.i64) (nth OpT l i).snd.snd :: @List.nil AV)) (eqL (notB (eqB (upF most1 now (nth OpT l i).snd.snd) (upF
    most2 rnow (nth OpT l i).snd.snd))) (notB (eqB (upF most1 now (nth OpT l i).snd.snd) (upF most2 rnow (nth OpT l i).snd.snd))) (ifB (notB (eqB (upF most1 now (nth
    OpT l i).snd.snd) (upF most2 rnow (nth OpT l i).snd.snd))) (eqI most most (eqD l l (eqL false false (eqI i i (eqI (upF most1 now (nth OpT l i).snd.snd) (upF most1
    now (nth OpT l i).snd.snd) (eqI most1 most1 (eqI (upF most2 rnow (nth OpT l i).snd.snd) (upF most2 rnow (nth OpT l i).snd.snd) (eqI most2 most2 (RR (most, l, i,
    upF most1 now (nth OpT l i).snd.snd, most1, upF most2 rnow (nth OpT l i).snd.snd, most2, false)))))))))) (eqI (upF most2 rnow (nth OpT l i).snd.snd) (upF most2 rnow
    (nth OpT l i).snd.snd) (ifB (notB (eqB (upF most1 now (nth OpT l i).snd.snd) (upF most2 rnow (nth OpT l i).snd.snd))) (eqI (upF most2 rnow (nth OpT l i).snd.snd)
    (upF most2 rnow (nth OpT l i).snd.snd) (eqL (notB (eqB (upF most1 now (nth OpT l i).snd.snd) (upF most2 rnow (nth OpT l i).snd.snd))) (notB (eqB (upF most1 now (nth
    OpT l i).snd.snd) (upF most2 rnow (nth OpT l i).snd.snd))) (eqL (notB (eqB (upF most1 now (nth OpT l i).snd.snd) (upF most2 rnow (nth OpT l i).snd.snd))) true (need
    (eqT true true) (eqI (upF most2 rnow (nth OpT l i).snd.snd) (upF most2 rnow (nth OpT l i).snd.snd) (eqL (notB (eqB (upF most1 now (nth OpT l i).snd.snd) (upF most2
    rnow (nth OpT l i).snd.snd))) (notB (eqB (upF most1 now (nth OpT l i).snd.snd) (upF most2 rnow (nth OpT l i).snd.snd))) (need (eqT true true) (eqL true true (eqI
    most most (eqD l l (eqL false false (eqI i i (eqI (upF most1 now (nth OpT l i).snd.snd) (upF most1 now (nth OpT l i).snd.snd) (eqI most1 most1 (eqI (upF most2 rnow
    (nth OpT l i).snd.snd) (upF most2 rnow (nth OpT l i).snd.snd) (eqI most2 most2 (RR (most, l, i, upF most1 now (nth OpT l i).snd.snd, most1, upF most2 rnow (nth OpT
    l i).snd.snd, most2, false)))))))))))))))))) (eqI (upF most2 rnow (nth OpT l i).snd.snd) (upF most2 rnow (nth OpT l i).snd.snd) (eqL (notB (eqB (upF most1 now (nth
    OpT l i).snd.snd) (upF most2 rnow (nth OpT l i).snd.snd))) (notB (eqB (upF most1 now (nth OpT l i).snd.snd) (upF most2 rnow (nth OpT l i).snd.snd))) (eqL (notB (eqB
    (upF most1 now (nth OpT l i).snd.snd) (upF most2 rnow (nth OpT l i).snd.snd))) false (eqI most most (eqI (upF most2 rnow (nth OpT l i).snd.snd) (upF most2 rnow (nth
    OpT l i).snd.snd) (eqL (notB (eqB (upF most1 now (nth OpT l i).snd.snd) (upF most2 rnow (nth OpT l i).snd.snd))) (notB (eqB (upF most1 now (nth OpT l i).snd.snd)
    (upF most2 rnow (nth OpT l i).snd.snd))) (eqI most most (eqL (ltB most (upF most1 now (nth OpT l i).snd.snd)) (ltB most (upF most1 now (nth OpT l i).snd.snd)) (eqL
    (ltB most (upF most1 now (nth OpT l i).snd.snd)) (ltB most (upF most1 now (nth OpT l i).snd.snd)) (ifB (ltB most (upF most1 now (nth OpT l i).snd.snd)) (eqI most
    most (eqD l l (eqL false false (eqI i i (eqI (upF most1 now (nth OpT l i).snd.snd) (upF most1 now (nth OpT l i).snd.snd) (eqI most1 most1 (eqI (upF most2 rnow (nth
    OpT l i).snd.snd) (upF most2 rnow (nth OpT l i).snd.snd) (eqI most2 most2 (RR (most, l, i, upF most1 now (nth OpT l i).snd.snd, most1, upF most2 rnow (nth OpT l
    i).snd.snd, most2, false)))))))))) (eqI most most (eqD l l (eqI (addW IntKind.i64 i 1) (addW IntKind.i64 i 1) (eqI (upF most1 now (nth OpT l i).snd.snd) (upF most1
    now (nth OpT l i).snd.snd) (eqI most1 most1 (eqI (upF most2 rnow (nth OpT l i).snd.snd) (upF most2 rnow (nth OpT l i).snd.snd) (eqI most2 most2 (Inv (most, l, addW
    IntKind.i64 i 1, upF most1 now (nth OpT l i).snd.snd, most1, upF most2 rnow (nth OpT l i).snd.snd, most2, false) ∧ meas (most, l, addW IntKind.i64 i 1, upF most1
    now (nth OpT l i).snd.snd, most1, upF most2 rnow (nth OpT l i).snd.snd, most2, false) < nn))))))))))))))))))))))))))))))))))))))))))))))))))))))))))))))))) (eqI
    most most (eqD l l (eqI i i (eqI now now (eqI most1 most1 (eqI rnow rnow (eqI most2 most2 (EE0 (most, l, i, now, most1, rnow, most2, false)))))))))) := by kernel_rfl
theorem body_counts_ok : ∀ x y, Pre_counts x → Inv_counts x y → awp tab fs_alive (acall tab fs_alive specs_rup fns 100 20) [] 100 (loopAt Try.f6 12) (bodyN sh_counts sx_counts nx_counts (Inv_counts x) (M_counts x) (M_counts x y) (D_counts x)) (sh_counts y) := by
  rintro ⟨most0, l0, i0, now0, most10, rnow0, most20, r0⟩ ⟨most, l, i, now, most1, rnow, most2, r⟩ hp hI
  obtain ⟨⟨rfl, rfl, rfl, rfl⟩, hI⟩ := hI
  have hp : i0 = 0 ∧ now0 = 0 ∧ rnow0 = 0 ∧ most1 = most ∧ most2 = most ∧ (0 ≤ most ∧ most ≤ 9223372036854775807) ∧ lenI l ≤ 200 := hp
  unfold D_counts
  rw [body_counts]
  have hInv : ∀ (i : Int) (now : Int) (rnow : Int) (r : Bool), ((0 ≤ i ∧ i ≤ lenI l) ∧ now = rnow ∧ 0 ≤ now ∧ now ≤ most) → Inv_counts (most, l, i0, now0, most1, rnow0, most2, r0) (most, l, i, now, most1, rnow, most2, r) := fun _ _ _ _ h => ⟨⟨rfl, rfl, rfl, rfl⟩, h⟩
  generalize hIe : Inv_counts (most, l, i0, now0, most1, rnow0, most2, r0) = Inv at hInv ⊢
  have hMe : ∀ (i : Int) (now : Int) (rnow : Int) (r : Bool), M_counts (most, l, i0, now0, most1, rnow0, most2, r0) (most, l, i, now, most1, rnow, most2, r) = (lenI l - i).toNat := fun _ _ _ _ => rfl
  generalize M_counts (most, l, i0, now0, most1, rnow0, most2, r0) = Me at hMe ⊢
  have hE0 : ∀ (i : Int) (now : Int) (rnow : Int) (r : Bool), (True) → E0_counts (most, l, i0, now0, most1, rnow0, most2, r0) (most, l, i, now, most1, rnow, most2, r) := fun _ _ _ _ h => ⟨⟨rfl, rfl, rfl, rfl⟩, h⟩
  generalize E0_counts (most, l, i0, now0, most1, rnow0, most2, r0) = EE0 at hE0 ⊢
  have hR : ∀ (i : Int) (now : Int) (rnow : Int) (r : Bool), (r = true) → R_counts (most, l, i0, now0, most1, rnow0, most2, r0) (most, l, i, now, most1, rnow, most2, r) := fun _ _ _ _ h => ⟨⟨rfl, rfl, rfl, rfl⟩, h⟩
  generalize R_counts (most, l, i0, now0, most1, rnow0, most2, r0) = RR at hR ⊢
  obtain ⟨hi, hnw, h0, h1⟩ := hI
  obtain ⟨p1, p2, p3, p4, p5, p6, p7⟩ := hp
  subst hnw
  subst p4
  subst p5
  by_cases hlt : i < lenI l
  · obtain ⟨k, n, ls, hx⟩ : ∃ (k n : Int) (ls : List Int), nth OpT l i = (k, n, ls) := ⟨_, _, _, rfl⟩
    rw [ltB_t.2 hlt]
    simp only [hx]
    have ei : addW .i64 i 1 = i + 1 := addW64 (by omega) (by omega)
    have hin : inI i (lenI l) := ⟨hi.1, hlt⟩
    by_cases hb : 100 < lenI ls
    · simp only [ltB_t.2 hb]
      simp only [need_def, appL_def, ifB_def, impB_def, selB_f, selB_t, selI_def, selX_def, notB_def, andB_def, orB_def, beqB_def, ltB_def, leB_def, eqB_def, seqB_def, eqI_def, eqL_def, eqS_def, eqD_def, eqT_def, imp_def, inI_def, nzI_def, geZ_def, ret_bool, ret_int, Bool.and_eq_true, Bool.or_eq_true, Bool.not_eq_true', Bool.not_eq_false', decide_eq_true_eq, decide_eq_false_iff_not, Bool.and_eq_false_iff, Bool.or_eq_false_iff, Int.not_lt, Int.not_le, true_and, and_true, implies_true, Bool.false_eq_true, Bool.true_eq_false, false_implies, forall_const, reduceCtorEq, if_true, if_false, true_implies]
      exact ⟨⟨hi.1, hlt⟩, hR _ _ _ _ rfl⟩
    · simp only [ltB_f.2 (Int.not_lt.1 hb)]
      have hu := upF_ok (l := ls) ⟨h0, h1⟩
      have ok1 : okN now most2 := by unfold okN; omega
      have l1 : lenOK (lenI ls) := by unfold lenOK; omega
      have c1 : ltB most2 0 = false := ltB_f.2 (by omega)
      have c2 : ltB most2 (upF most2 now ls) = false := ltB_f.2 (by omega)
      simp only [eqB_self, ei, c1, c2, notB_def, Bool.not_true, hin, ok1, l1, need_def, true_and]
      by_cases hk : k = 3
      · simp only [eqB_t.2 hk]
        simp only [ifB_def, eqI_def, eqL_def, eqD_def, eqT_def, hMe, true_and, Bool.false_eq_true, Bool.true_eq_false, false_implies, forall_const, and_true]
        repeat' (first | with_reducible rfl | omega | (exact hInv _ _ _ _ ⟨by omega, rfl, by omega, by omega⟩) | refine ⟨?_, ?_⟩ | (intro hx; cases hx; done) | intro _)
      · simp only [eqB_f.2 hk]
        simp only [ifB_def, eqI_def, eqL_def, eqD_def, eqT_def, hMe, true_and, Bool.false_eq_true, Bool.true_eq_false, false_implies, forall_const, and_true]
        repeat' (first | with_reducible rfl | omega | (exact hInv _ _ _ _ ⟨by omega, rfl, by omega, by omega⟩) | refine ⟨?_, ?_⟩ | (intro hx; cases hx; done) | intro _)
  · rw [ltB_f.2 (Int.not_lt.1 hlt)]
    simp only [need_def, appL_def, ifB_def, impB_def, selB_f, selB_t, selI_def, selX_def, notB_def, andB_def, orB_def, beqB_def, ltB_def, leB_def, eqB_def, seqB_def, eqI_def, eqL_def, eqS_def, eqD_def, eqT_def, imp_def, inI_def, nzI_def, geZ_def, ret_bool, ret_int, Bool.and_eq_true, Bool.or_eq_true, Bool.not_eq_true', Bool.not_eq_false', decide_eq_true_eq, decide_eq_false_iff_not, Bool.and_eq_false_iff, Bool.or_eq_false_iff, Int.not_lt, Int.not_le, true_and, and_true, implies_true, Bool.false_eq_true, Bool.true_eq_false, false_implies, forall_const, reduceCtorEq, if_true, if_false, true_implies]
    exact hE0 _ _ _ _ trivial
theorem summ_counts : SummOK Try.prog (loopAt Try.f6 12) S_counts :=
  summN_ok (L := []) (fuel := 100) tabOK fsOK_alive (mkCall fsOK_alive specsOK_rup fnsOK) (fun C => mkDraw fsOK_alive (mkCall fsOK_alive specsOK_rup fnsOK) C) loopsOK_nil Inv_counts M_counts
    (fun x hp => by
      obtain ⟨most, l, i, now, most1, rnow, most2, r⟩ := x
      have hp : i = 0 ∧ now = 0 ∧ rnow = 0 ∧ most1 = most ∧ most2 = most ∧ (0 ≤ most ∧ most ≤ 9223372036854775807) ∧ lenI l ≤ 200 := hp
      obtain ⟨rfl, rfl, rfl, rfl, rfl, h1, h2⟩ := hp
      exact ⟨⟨rfl, rfl, rfl, rfl⟩, ⟨by omega, lenI_nn _⟩, rfl, by omega, by omega⟩)
    body_counts_ok
noncomputable def fns_LRingCounts : Fns := (6, Try.f6, [(12, S_counts)]) :: fns
theorem fn_LRingCounts : FnOK Try.prog 6 Try.f6 [(12, S_counts)] := fnOK_loops Try.func6 (fun vs w => Try.call6 vs w) (by kernel_rfl) fun k S h => by
  simp only [List.mem_cons, Prod.mk.injEq, List.not_mem_nil, or_false] at h
  obtain ⟨rfl, rfl⟩ := h
  exact summ_counts
theorem fns_LRingCountsOK : FnsOK Try.prog fns_LRingCounts := fnsOK_cons fn_LRingCounts fnsOK
theorem RingCounts_eq (most : Int) (l : List (den OpT)) : acall tab fs_alive specs_rup fns_LRingCounts 100 20 6 [.int .i64 most, .view [] OpT l] [] (fun o _ _ _ => o = .ret (.bool true)) =
  (ifB (ltB 200 (lenI l)) (AOut.ret (AV.bool true) = AOut.ret (AV.bool true)) (ifB (ltB most 0) (ifB (selB (selB (notB (beqB false (leB 0 most))) true (notB (beqB false
    (leB 0 most)))) true (selB (ltB most 0) false false)) (AOut.ret (AV.bool false) = AOut.ret (AV.bool true)) (ifB (ltB most 0) (AOut.ret (AV.bool true) = AOut.ret
    (AV.bool true)) (eqI most most (eqD l l (need (AV.nilp = AV.ptr 0 0) False))))) (ifB (selB (selB (notB (beqB true (leB 0 most))) true (notB (beqB true (leB 0 most))))
    true (selB (ltB most 0) true false)) (AOut.ret (AV.bool false) = AOut.ret (AV.bool true)) (ifB (ltB most 0) (AOut.ret (AV.bool true) = AOut.ret (AV.bool true)) (eqI
    most most (eqD l l (eqI 0 0 (eqI 0 0 (eqI most most (eqI 0 0 (eqI most most (((0 : Int) = 0 ∧ (0 : Int) = 0 ∧ (0 : Int) = 0 ∧ most = most ∧ most = most ∧ (0 ≤ most
    ∧ most ≤ 9223372036854775807) ∧ lenI l ≤ 200) ∧ ((∀ (y : X_counts), (y.1 = most ∧ y.2.1 = l ∧ y.2.2.2.2.1 = most ∧ y.2.2.2.2.2.2.1 = most) ∧ True → AOut.ret (AV.bool
    true) = AOut.ret (AV.bool true)) ∧ True) ∧ ∀ (y : X_counts), (y.1 = most ∧ y.2.1 = l ∧ y.2.2.2.2.1 = most ∧ y.2.2.2.2.2.2.1 = most) ∧ y.2.2.2.2.2.2.2 = true → AOut.ret
    (AV.bool y.2.2.2.2.2.2.2) = AOut.ret (AV.bool true))))))))))))) := by kernel_rfl
theorem RingCounts_call : CallOK Try.prog (acall tab fs_alive specs_rup fns_LRingCounts 100 20) := mkCall fsOK_alive specsOK_rup fns_LRingCountsOK
theorem RingCounts_go (most : Int) (l : List (den OpT)) (hb : -9223372036854775808 ≤ most ∧ most ≤ 9223372036854775807) : LawEv (acall tab fs_alive specs_rup fns_LRingCounts 100 20) 6 [.int .i64 most, .view [] OpT l] := by
  refine ⟨?_⟩
  rw [RingCounts_eq]
  by_cases hl : 200 < lenI l
  · simp only [ltB_t.2 hl, ifB]
  · simp only [ltB_f.2 (Int.not_lt.1 hl)]
    by_cases hm : most < 0
    · have e : leB 0 most = false := leB_f.2 hm
      simp only [ltB_t.2 hm, e]
      simp only [beqB_def, notB_def, selB_def]
      simp [ifB]
    · have e : leB 0 most = true := leB_t.2 (by omega)
      simp only [ltB_f.2 (Int.not_lt.1 hm), e]
      simp only [beqB_def, notB_def, selB_def]
      simp only [ifB_def, beq_self_eq_true, Bool.not_true, Bool.false_eq_true, if_false, false_implies, true_and, forall_const, eqI_def, eqD_def, need_def, and_true]
      refine ⟨⟨⟨by omega, hb.2⟩, by omega⟩, fun _ _ => trivial, ?_⟩
      rintro ⟨most', l', i, now, most1, rnow, most2, r⟩ ⟨hk, rfl⟩
      rfl
theorem RingCounts_ev : ∀ xs : DT [(.int .i64), (.list (.prod (.int .i64) (.prod (.int .i64) (.list (.int .i64)))))], wfs [(.int .i64), (.list (.prod (.int .i64) (.prod (.int .i64) (.list (.int .i64)))))] xs → LawEv (acall tab fs_alive specs_rup fns_LRingCounts 100 20) 6 (argsA tab #[3, 46].toList [(.int .i64), (.list (.prod (.int .i64) (.prod (.int .i64) (.list (.int .i64)))))] xs) := by
  rintro ⟨most, l, ⟨⟩⟩ hw
  exact RingCounts_go most l (has64.1 hw.1)



theorem RingCounts_own : ownKnob Try.prog.godebug = none := by kernel_rfl
theorem RingCounts_kids : Kids Try.prog (· < Try.prog.types.size) := kids_rows (by kernel_rfl) (by kernel_rfl)
theorem RingCounts_full : ∀ t e, t < Try.prog.types.size → Try.prog.underlying t = some (.slice e) → 0 < Try.prog.cellsOf e := slices_full_of _ (by kernel_rfl)

theorem RingCounts_lifted (os : Os) (started : os.Started) (H : Type) (enc : TypeId × Value → H) :
    ReturnsInHanded {} Try.checked os 6 .any (Rows.ringCountsSpec.pre6 enc Try.prog Try.f6 Rows.ringCountsRow.domain false) (Rows.ringCountsSpec.post enc Try.prog Try.f6 false true false false) := by
  refine returnsInHanded_of_change_shaped (C := Try.checked) RingCounts_own started (by kernel_rfl) Try.func6
    (ChangeSpec.witness6 (enc := enc) (C := Try.checked) false ⟨#[], #[(Value.int IntKind.i64 0), (Value.slice none 0 0)], []⟩ 8 (by kernel_rfl) (by kernel_rfl) (by kernel_rfl) (by kernel_rfl)) ?_
  intro W base args ds gs before hval hW _ hwt _ _
  refine law_contract' (P := Try.prog) (fn := Try.f6) (s := Rows.ringCountsSpec) (tb := 4) (Ts := [(.int .i64), (.list (.prod (.int .i64) (.prod (.int .i64) (.list (.int .i64)))))]) (call := (acall tab fs_alive specs_rup fns_LRingCounts 100 20)) (f := 6) tabOK RingCounts_call RingCounts_kids RingCounts_full Try.params6 (by decide +kernel) rfl rfl Try.underlying4 ?_ (by kernel_rfl) RingCounts_ev hval hW hwt
  intro ds hl
  match ds, hl with
  | [d0, d1], _ => rfl

theorem RingCounts_holds : Rows.RingCountsSaid :=
  OpenClaim.holds_of_wide 6 Try.f6 rfl rfl rfl rfl rfl rfl rfl ⟨rfl, rfl, rfl, rfl, rfl⟩ rfl rfl rfl rfl rfl (by kernel_rfl) Try.func6 (by kernel_rfl)
    (of_decide_eq_true (by kernel_rfl)) (by unfold Func.isWrapper; first | (rw [if_pos (by decide +kernel)]; kernel_rfl) | (rw [if_neg (by decide +kernel)]; exact ⟨rfl, rfl⟩))
    (fun os started H enc _ => RingCounts_lifted os started H enc)

end Go.Proofs.Ytgifbceiaibejaa
