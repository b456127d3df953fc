/- Ytbgifokhlbaapaa: the law ModeRests returns true for every input, and its arguments read as they did: no condition. -/
import Derived.Test.YtbgifokhlbaapaaRows
import Derived.Test.YtbgifokhlbaapaaSxV
import Derived.Test.YtbgifokhlbaapaaSmMode
import Derived.HandedShaped
namespace Go.Proofs.Ytbgifokhlbaapaa
open Go.ChangeShapes Go.WideShapes Go.ChangeAt Go.RowKit Sx
set_option maxRecDepth 100000
set_option linter.unusedVariables false
set_option linter.unusedSimpArgs false
set_option maxHeartbeats 4000000

def Post1 (now cal st : Int) : Prop := (0 ≤ now ∧ now ≤ 3) ∧ (0 ≤ cal ∧ cal ≤ 2147483647) ∧ 0 ≤ st ∧ st ≤ 2147483647
def Pre7 (calm n : Int) : Prop := 1 ≤ calm ∧ calm ≤ 100 ∧ n ≤ 100
def Pre12 (calm was now cal st : Int) : Prop := was = now ∧ 1 ≤ calm ∧ calm ≤ 100 ∧ Post1 now cal st
def Post12 (was now : Int) : Prop := was = 3 ∧ now = 3 ∨ was ≠ 3 ∧ now = 0
@[reducible] def OpT : Ty := .prod (.int .i64) (.prod (.int .i64) (.prod (.int .i64) (.prod (.int .i64) .bool)))
abbrev XR := Int × List (den OpT) × Int × Int × Int × Int
def sh7 : XR → St := fun x => match x with
  | (calm, l, i, now, cal, st) => ⟨setL (rep .bad 76) [(0, .int .i64 calm), (1, .view [] OpT l), (4, .bool false), (5, .ptr 0 0), (7, .int .i64 i)], [.var [.int .i64 now, .int .i64 calm, .int .i64 cal, .int .i64 st]], [], [0]⟩
abbrev XR2 := Int × Int × Int × Int × Int × Int
def sh12 : XR2 → St := fun x => match x with
  | (calm, was, j, now, cal, st) => ⟨setL (rep .bad 76) [(0, .int .i64 calm), (4, .bool false), (5, .ptr 0 0), (8, .int .i64 was), (9, .int .i64 j)], [.var [.int .i64 now, .int .i64 calm, .int .i64 cal, .int .i64 st]], [], [0]⟩
noncomputable def S7 : Summ := fun σ Q => ∃ (calm : Int) (l : List (den OpT)), leS σ (sh7 (calm, l, 0, 0, 0, 0)) (Pre7 calm (lenI l) ∧ ∀ (i now cal st : Int), Post1 now cal st → Q (.exit 0) (sh7 (calm, l, i, now, cal, st)))
noncomputable def S12 : Summ := fun σ Q => ∃ (calm was now cal st : Int), leS σ (sh12 (calm, was, 0, now, cal, st)) (Pre12 calm was now cal st ∧ ∀ (j now' cal' st' : Int), Post12 was now' → Q (.exit 2) (sh12 (calm, was, j, now', cal', st')))
noncomputable def fns4 : Fns := (4, Try.f4, [(7, S7), (12, S12)]) :: fns
abbrev nt (l : List (den OpT)) (i : Int) : den OpT := nth OpT l i
theorem body7 (Inv : XR → Prop) (meas : XR → Nat) (n : Nat) (QX : AExit → XR → Prop) (calm : Int) (l : List (den OpT)) (i now cal st : Int) : awp tab (acall tab specs fns 100 20) [] 100 (loopAt Try.f4 7) (bodyK sh7 (fun _ => sh7) Inv meas n QX) (sh7 (calm, l, i, now, cal, st)) =
  (ifB (ltB i (lenI l)) (need (inI i (lenI l)) (ifB (eqB calm 0) (∃ y, eqI calm y.1 (need (AV.view [] OpT l = AV.view [] OpT y.2.1) (eqL false false (eqI (addW IntKind.i64
    i 1) y.2.2.1 (eqI now y.2.2.2.1 (eqI calm y.1 (eqI cal y.2.2.2.2.1 (eqI st y.2.2.2.2.2 (Inv y ∧ (meas y).succ.le n))))))))) (ifB (notB (calmF (nt l i).2.1 (nt l
    i).2.2.1 (nt l i).2.2.2.1 (nt l i).2.2.2.2)) (eqI now now (eqI (nt l i).2.1 (nt l i).2.1 (eqI (nt l i).2.2.1 (nt l i).2.2.1 (eqI (nt l i).2.2.2.1 (nt l i).2.2.2.1
    (eqL (nt l i).2.2.2.2 (nt l i).2.2.2.2 (eqI 0 0 (eqI calm calm (eqL (leB calm 0) (leB calm 0) (eqI 0 0 (eqI calm calm (ifB (notB (eqB (nextF now (nt l i).2.1 (nt
    l i).2.2.1 (nt l i).2.2.2.1 (nt l i).2.2.2.2 (leB calm 0)) now)) (∃ y, eqI calm y.1 (need (AV.view [] OpT l = AV.view [] OpT y.2.1) (eqL false false (eqI (addW IntKind.i64
    i 1) y.2.2.1 (eqI (nextF now (nt l i).2.1 (nt l i).2.2.1 (nt l i).2.2.2.1 (nt l i).2.2.2.2 (leB calm 0)) y.2.2.2.1 (eqI calm y.1 (eqI 0 y.2.2.2.2.1 (eqI (selI (ltB
    2147483647 (addW IntKind.i64 st 1)) 2147483647 (addW IntKind.i64 st 1)) y.2.2.2.2.2 (Inv y ∧ (meas y).succ.le n))))))))) (∃ y, eqI calm y.1 (need (AV.view [] OpT
    l = AV.view [] OpT y.2.1) (eqL false false (eqI (addW IntKind.i64 i 1) y.2.2.1 (eqI (nextF now (nt l i).2.1 (nt l i).2.2.1 (nt l i).2.2.2.1 (nt l i).2.2.2.2 (leB
    calm 0)) y.2.2.2.1 (eqI calm y.1 (eqI 0 y.2.2.2.2.1 (eqI (selI (ltB 2147483647 (addW IntKind.i64 st 1)) 2147483647 (addW IntKind.i64 st 1)) y.2.2.2.2.2 (Inv y ∧
    (meas y).succ.le n)))))))))))))))))))) (eqI now now (eqI (nt l i).2.1 (nt l i).2.1 (eqI (nt l i).2.2.1 (nt l i).2.2.1 (eqI (nt l i).2.2.2.1 (nt l i).2.2.2.1 (eqL
    (nt l i).2.2.2.2 (nt l i).2.2.2.2 (eqI (selI (ltB 2147483647 (addW IntKind.i64 cal 1)) 2147483647 (addW IntKind.i64 cal 1)) (selI (ltB 2147483647 (addW IntKind.i64
    cal 1)) 2147483647 (addW IntKind.i64 cal 1)) (eqI calm calm (eqL (leB calm (selI (ltB 2147483647 (addW IntKind.i64 cal 1)) 2147483647 (addW IntKind.i64 cal 1)))
    (leB calm (selI (ltB 2147483647 (addW IntKind.i64 cal 1)) 2147483647 (addW IntKind.i64 cal 1))) (eqI (selI (ltB 2147483647 (addW IntKind.i64 cal 1)) 2147483647 (addW
    IntKind.i64 cal 1)) (selI (ltB 2147483647 (addW IntKind.i64 cal 1)) 2147483647 (addW IntKind.i64 cal 1)) (eqI calm calm (ifB (notB (eqB (nextF now (nt l i).2.1 (nt
    l i).2.2.1 (nt l i).2.2.2.1 (nt l i).2.2.2.2 (leB calm (selI (ltB 2147483647 (addW IntKind.i64 cal 1)) 2147483647 (addW IntKind.i64 cal 1)))) now)) (∃ y, eqI calm
    y.1 (need (AV.view [] OpT l = AV.view [] OpT y.2.1) (eqL false false (eqI (addW IntKind.i64 i 1) y.2.2.1 (eqI (nextF now (nt l i).2.1 (nt l i).2.2.1 (nt l i).2.2.2.1
    (nt l i).2.2.2.2 (leB calm (selI (ltB 2147483647 (addW IntKind.i64 cal 1)) 2147483647 (addW IntKind.i64 cal 1)))) y.2.2.2.1 (eqI calm y.1 (eqI 0 y.2.2.2.2.1 (eqI
    (selI (ltB 2147483647 (addW IntKind.i64 st 1)) 2147483647 (addW IntKind.i64 st 1)) y.2.2.2.2.2 (Inv y ∧ (meas y).succ.le n))))))))) (∃ y, eqI calm y.1 (need (AV.view
    [] OpT l = AV.view [] OpT y.2.1) (eqL false false (eqI (addW IntKind.i64 i 1) y.2.2.1 (eqI (nextF now (nt l i).2.1 (nt l i).2.2.1 (nt l i).2.2.2.1 (nt l i).2.2.2.2
    (leB calm (selI (ltB 2147483647 (addW IntKind.i64 cal 1)) 2147483647 (addW IntKind.i64 cal 1)))) y.2.2.2.1 (eqI calm y.1 (eqI (selI (ltB 2147483647 (addW IntKind.i64
    cal 1)) 2147483647 (addW IntKind.i64 cal 1)) y.2.2.2.2.1 (eqI (selI (ltB 2147483647 (addW IntKind.i64 st 1)) 2147483647 (addW IntKind.i64 st 1)) y.2.2.2.2.2 (Inv
    y ∧ (meas y).succ.le n))))))))))))))))))))))) (∃ y, eqI calm y.1 (need (AV.view [] OpT l = AV.view [] OpT y.2.1) (eqL false false (eqI i y.2.2.1 (eqI now y.2.2.2.1
    (eqI calm y.1 (eqI cal y.2.2.2.2.1 (eqI st y.2.2.2.2.2 (QX (AExit.exit 0) y)))))))))) := by kernel_rfl
theorem body12 (Inv : XR2 → Prop) (meas : XR2 → Nat) (n : Nat) (QX : AExit → XR2 → Prop) (calm was j now cal st : Int) : awp tab (acall tab specs fns 100 20) [] 100 (loopAt Try.f4 12) (bodyK sh12 (fun _ => sh12) Inv meas n QX) (sh12 (calm, was, j, now, cal, st)) =
  (ifB (ltB j (mulW IntKind.i64 2 calm)) (ifB (eqB calm 0) (∃ y, eqI calm y.1 (eqL false false (eqI was y.2.1 (eqI (addW IntKind.i64 j 1) y.2.2.1 (eqI now y.2.2.2.1
    (eqI calm y.1 (eqI cal y.2.2.2.2.1 (eqI st y.2.2.2.2.2 (Inv y ∧ (meas y).succ.le n))))))))) (ifB (notB (calmF 3 0 0 true)) (eqI now now (eqI 3 3 (eqI 0 0 (eqI 0
    0 (eqL true true (eqI 0 0 (eqI calm calm (eqL (leB calm 0) (leB calm 0) (eqI 0 0 (eqI calm calm (ifB (notB (eqB (nextF now 3 0 0 true (leB calm 0)) now)) (∃ y, eqI
    calm y.1 (eqL false false (eqI was y.2.1 (eqI (addW IntKind.i64 j 1) y.2.2.1 (eqI (nextF now 3 0 0 true (leB calm 0)) y.2.2.2.1 (eqI calm y.1 (eqI 0 y.2.2.2.2.1
    (eqI (selI (ltB 2147483647 (addW IntKind.i64 st 1)) 2147483647 (addW IntKind.i64 st 1)) y.2.2.2.2.2 (Inv y ∧ (meas y).succ.le n))))))))) (∃ y, eqI calm y.1 (eqL
    false false (eqI was y.2.1 (eqI (addW IntKind.i64 j 1) y.2.2.1 (eqI (nextF now 3 0 0 true (leB calm 0)) y.2.2.2.1 (eqI calm y.1 (eqI 0 y.2.2.2.2.1 (eqI (selI (ltB
    2147483647 (addW IntKind.i64 st 1)) 2147483647 (addW IntKind.i64 st 1)) y.2.2.2.2.2 (Inv y ∧ (meas y).succ.le n)))))))))))))))))))) (eqI now now (eqI 3 3 (eqI 0
    0 (eqI 0 0 (eqL true true (eqI (selI (ltB 2147483647 (addW IntKind.i64 cal 1)) 2147483647 (addW IntKind.i64 cal 1)) (selI (ltB 2147483647 (addW IntKind.i64 cal 1))
    2147483647 (addW IntKind.i64 cal 1)) (eqI calm calm (eqL (leB calm (selI (ltB 2147483647 (addW IntKind.i64 cal 1)) 2147483647 (addW IntKind.i64 cal 1))) (leB calm
    (selI (ltB 2147483647 (addW IntKind.i64 cal 1)) 2147483647 (addW IntKind.i64 cal 1))) (eqI (selI (ltB 2147483647 (addW IntKind.i64 cal 1)) 2147483647 (addW IntKind.i64
    cal 1)) (selI (ltB 2147483647 (addW IntKind.i64 cal 1)) 2147483647 (addW IntKind.i64 cal 1)) (eqI calm calm (ifB (notB (eqB (nextF now 3 0 0 true (leB calm (selI
    (ltB 2147483647 (addW IntKind.i64 cal 1)) 2147483647 (addW IntKind.i64 cal 1)))) now)) (∃ y, eqI calm y.1 (eqL false false (eqI was y.2.1 (eqI (addW IntKind.i64
    j 1) y.2.2.1 (eqI (nextF now 3 0 0 true (leB calm (selI (ltB 2147483647 (addW IntKind.i64 cal 1)) 2147483647 (addW IntKind.i64 cal 1)))) y.2.2.2.1 (eqI calm y.1
    (eqI 0 y.2.2.2.2.1 (eqI (selI (ltB 2147483647 (addW IntKind.i64 st 1)) 2147483647 (addW IntKind.i64 st 1)) y.2.2.2.2.2 (Inv y ∧ (meas y).succ.le n))))))))) (∃ y,
    eqI calm y.1 (eqL false false (eqI was y.2.1 (eqI (addW IntKind.i64 j 1) y.2.2.1 (eqI (nextF now 3 0 0 true (leB calm (selI (ltB 2147483647 (addW IntKind.i64 cal
    1)) 2147483647 (addW IntKind.i64 cal 1)))) y.2.2.2.1 (eqI calm y.1 (eqI (selI (ltB 2147483647 (addW IntKind.i64 cal 1)) 2147483647 (addW IntKind.i64 cal 1)) y.2.2.2.2.1
    (eqI (selI (ltB 2147483647 (addW IntKind.i64 st 1)) 2147483647 (addW IntKind.i64 st 1)) y.2.2.2.2.2 (Inv y ∧ (meas y).succ.le n)))))))))))))))))))))) (∃ y, eqI calm
    y.1 (eqL false false (eqI was y.2.1 (eqI j y.2.2.1 (eqI now y.2.2.2.1 (eqI calm y.1 (eqI cal y.2.2.2.2.1 (eqI st y.2.2.2.2.2 (QX (AExit.exit 2) y)))))))))) := by kernel_rfl
theorem ModeRests_eq (calm : Int) (l : List (den OpT)) : acall tab specs fns4 100 20 4 [.int .i64 calm, .view [] OpT l] [] (fun o _ _ _ => o = .ret (.bool true)) =
  (ifB (ltB calm 1) (AOut.ret (AV.bool true) = AOut.ret (AV.bool true)) (ifB (ltB 1000 calm) (AOut.ret (AV.bool true) = AOut.ret (AV.bool true)) (ifB (ltB 100 calm)
    (AOut.ret (AV.bool true) = AOut.ret (AV.bool true)) (ifB (ltB 100 (lenI l)) (AOut.ret (AV.bool true) = AOut.ret (AV.bool true)) (∃ calm_1 l_1, eqI calm calm_1 (need
    (AV.view [] OpT l = AV.view [] OpT l_1) (eqL false false (eqI 0 0 (eqI 0 0 (eqI calm calm_1 (eqI 0 0 (eqI 0 0 (Pre7 calm_1 (lenI l_1) ∧ ∀ (i now cal st : Int), Post1
    now cal st → ifB (eqB calm_1 0) (∃ calm was now_1 cal_1 st_1, eqI calm_1 calm (eqL false false (eqI 3 was (eqI 0 0 (eqI now now_1 (eqI calm_1 calm (eqI cal cal_1
    (eqI st st_1 (Pre12 calm was now_1 cal_1 st_1 ∧ ∀ (j now' cal' st' : Int), Post12 was now' → ifB (eqB was 3) (ifB (eqB calm 0) (AOut.ret (AV.bool true) = AOut.ret
    (AV.bool true)) (ifB (eqB now' 3) (AOut.ret (AV.bool true) = AOut.ret (AV.bool true)) (ifB (notB (eqB was 3)) (ifB (eqB calm 0) (AOut.ret (AV.bool false) = AOut.ret
    (AV.bool true)) (AOut.ret (AV.bool (eqB now' 0)) = AOut.ret (AV.bool true))) (AOut.ret (AV.bool false) = AOut.ret (AV.bool true))))) (ifB (notB (eqB was 3)) (ifB
    (eqB calm 0) (AOut.ret (AV.bool false) = AOut.ret (AV.bool true)) (AOut.ret (AV.bool (eqB now' 0)) = AOut.ret (AV.bool true))) (AOut.ret (AV.bool false) = AOut.ret
    (AV.bool true)))))))))))) (∃ calm was now_1 cal_1 st_1, eqI calm_1 calm (eqL false false (eqI now was (eqI 0 0 (eqI now now_1 (eqI calm_1 calm (eqI cal cal_1 (eqI
    st st_1 (Pre12 calm was now_1 cal_1 st_1 ∧ ∀ (j now' cal' st' : Int), Post12 was now' → ifB (eqB was 3) (ifB (eqB calm 0) (AOut.ret (AV.bool true) = AOut.ret (AV.bool
    true)) (ifB (eqB now' 3) (AOut.ret (AV.bool true) = AOut.ret (AV.bool true)) (ifB (notB (eqB was 3)) (ifB (eqB calm 0) (AOut.ret (AV.bool false) = AOut.ret (AV.bool
    true)) (AOut.ret (AV.bool (eqB now' 0)) = AOut.ret (AV.bool true))) (AOut.ret (AV.bool false) = AOut.ret (AV.bool true))))) (ifB (notB (eqB was 3)) (ifB (eqB calm
    0) (AOut.ret (AV.bool false) = AOut.ret (AV.bool true)) (AOut.ret (AV.bool (eqB now' 0)) = AOut.ret (AV.bool true))) (AOut.ret (AV.bool false) = AOut.ret (AV.bool
    true))))))))))))))))))))))))) := by kernel_rfl
theorem body7_ok {c : Int} {l : List (den OpT)} {i now cal st : Int} (p1 : 1 ≤ c) (p2 : c ≤ 100) (p3 : lenI l ≤ 100) (hi : 0 ≤ i ∧ i ≤ lenI l) (hp : Post1 now cal st) :
    awp tab (acall tab specs fns 100 20) [] 100 (loopAt Try.f4 7) (bodyK sh7 (fun _ => sh7) (fun y : XR => y.1 = c ∧ y.2.1 = l ∧ (0 ≤ y.2.2.1 ∧ y.2.2.1 ≤ lenI l) ∧ Post1 y.2.2.2.1 y.2.2.2.2.1 y.2.2.2.2.2)
      (fun y => (lenI y.2.1 - y.2.2.1).toNat) (lenI l - i).toNat fun e y => e = .exit 0 ∧ y.1 = c ∧ y.2.1 = l ∧ Post1 y.2.2.2.1 y.2.2.2.2.1 y.2.2.2.2.2) (sh7 (c, l, i, now, cal, st)) := by
  rw [body7]
  obtain ⟨q1, q2, q3⟩ := hp
  simp only [ifB_and, ltB_t, ltB_f, eqB_t, eqB_f, need, inI, eqI, eqL, true_and, step_count q2, step_count q3, Prod.exists, view_eq, exists_eq_left', Nat.succ_eq_add_one]
  refine ⟨fun h1 => ⟨⟨hi.1, h1⟩, fun h => absurd h (by omega), fun _ => ?_⟩, fun h1 => ?_⟩
  · have e : addW .i64 i 1 = i + 1 := addW64 (by omega) (by omega)
    have hm : (lenI l - (i + 1)).toNat + 1 ≤ (lenI l - i).toNat := by omega
    have hn : ∀ {k a b c : Int} {d r : Bool}, 0 ≤ nextF k a b c d r ∧ nextF k a b c d r ≤ 3 := nextF_range
    have hb : ∀ {n cc ss : Int}, (0 ≤ n ∧ n ≤ 3) → (0 ≤ cc ∧ cc ≤ 2147483647) → (0 ≤ ss ∧ ss ≤ 2147483647) →
        ((0 ≤ addW .i64 i 1 ∧ addW .i64 i 1 ≤ lenI l) ∧ Post1 n cc ss) ∧ (lenI l - addW .i64 i 1).toNat + 1 ≤ (lenI l - i).toNat := fun h2 h3 h4 => ⟨⟨by rw [e]; omega, h2, h3, h4⟩, by rw [e]; exact hm⟩
    have z : (0 : Int) ≤ 0 ∧ (0 : Int) ≤ 2147483647 := by omega
    have m1 : 0 ≤ min (cal + 1) 2147483647 ∧ min (cal + 1) 2147483647 ≤ 2147483647 := by omega
    have m2 : 0 ≤ min (st + 1) 2147483647 ∧ min (st + 1) 2147483647 ≤ 2147483647 := by omega
    exact ⟨fun _ => ⟨fun _ => ⟨_, _, _, _, _, _, rfl, rfl, rfl, rfl, rfl, rfl, rfl, ⟨rfl, rfl, (hb hn z m2).1⟩, by rw [e]; exact hm⟩, fun _ => ⟨_, _, _, _, _, _, rfl, rfl, rfl, rfl, rfl, rfl, rfl, ⟨rfl, rfl, (hb hn z m2).1⟩, by rw [e]; exact hm⟩⟩, fun _ => ⟨fun _ => ⟨_, _, _, _, _, _, rfl, rfl, rfl, rfl, rfl, rfl, rfl, ⟨rfl, rfl, (hb hn z m2).1⟩, by rw [e]; exact hm⟩, fun _ => ⟨_, _, _, _, _, _, rfl, rfl, rfl, rfl, rfl, rfl, rfl, ⟨rfl, rfl, (hb hn m1 m2).1⟩, by rw [e]; exact hm⟩⟩⟩
  · exact ⟨_, _, _, _, _, _, rfl, rfl, rfl, rfl, rfl, rfl, rfl, rfl, rfl, q1, q2, q3⟩
theorem summ7 : SummOK Try.prog (loopAt Try.f4 7) S7 := by
  refine summOK_of (L := []) (fuel := 100) tabOK callS (fun C => draw_ok tabOK callS mixed C) loopsOK_nil sh7 (fun _ => sh7) (fun y => (lenI y.2.1 - y.2.2.1).toNat) ?_
  rintro Q σ ⟨calm, l, h⟩
  obtain ⟨hs, ⟨p1, p2, p3⟩, hQ⟩ := leS_sound h
  refine ⟨(calm, l, 0, 0, 0, 0), fun y => y.1 = calm ∧ y.2.1 = l ∧ (0 ≤ y.2.2.1 ∧ y.2.2.1 ≤ lenI l) ∧ Post1 y.2.2.2.1 y.2.2.2.2.1 y.2.2.2.2.2, fun e y => e = .exit 0 ∧ y.1 = calm ∧ y.2.1 = l ∧ Post1 y.2.2.2.1 y.2.2.2.2.1 y.2.2.2.2.2, hs, ?_, ?_, ?_⟩
  · exact ⟨rfl, rfl, ⟨by simp, by simp [lenI]⟩, by simp, by simp, by simp⟩
  · rintro e ⟨c, l', i, now, cal, st⟩ ⟨rfl, rfl, rfl, hp⟩
    exact hQ i now cal st hp
  · rintro ⟨c, l', i, now, cal, st⟩ ⟨rfl, rfl, hi, hp⟩
    exact body7_ok p1 p2 p3 hi hp
def need12 (c now cal : Int) : Int := if now = 2 then max 1 (c - cal) + c else if now = 1 then max 1 (c - cal) else 0
def Inv12 (c was j now cal st : Int) : Prop := (0 ≤ j ∧ j ≤ 2 * c) ∧ Post1 now cal st ∧ (was = 3 ∧ now = 3 ∨ was ≠ 3 ∧ now ≠ 3 ∧ j + need12 c now cal ≤ 2 * c)
theorem next_calm {now : Int} {r : Bool} (h : 0 ≤ now ∧ now ≤ 3) : nextF now 3 0 0 true r = if now = 3 then 3 else if now = 2 then (if r = true then 1 else 2) else if now = 1 then (if r = true then 0 else 1) else 0 := by
  have hc : calmF 3 0 0 true = true := by decide
  unfold nextF
  rw [hc]
  cases r <;> simp <;> (repeat' split) <;> omega
theorem inv12_step {c was j now cal st : Int} (p1 : 1 ≤ c) (h : Inv12 c was j now cal st) (hj : j < 2 * c) {n : Int} (hn : n = nextF now 3 0 0 true (leB c (min (cal + 1) 2147483647))) (p2 : c ≤ 100) :
    (n ≠ now → Inv12 c was (j + 1) n 0 (min (st + 1) 2147483647)) ∧ (n = now → Inv12 c was (j + 1) n (min (cal + 1) 2147483647) (min (st + 1) 2147483647)) := by
  obtain ⟨h1, ⟨q1, q2, q3⟩, h2⟩ := h
  rw [next_calm q1] at hn
  have hr : leB c (min (cal + 1) 2147483647) = true ↔ c ≤ cal + 1 := by rw [leB_t]; omega
  simp only [hr] at hn
  unfold need12 at h2
  constructor <;> intro hne <;> refine ⟨by omega, ⟨by split at hn <;> (repeat' split at hn) <;> omega, by omega, by omega⟩, ?_⟩ <;> unfold need12 <;> (repeat' split at hn) <;> (repeat' split) <;> (repeat' split at h2) <;> omega
theorem body12_ok {c was j now cal st : Int} (p1 : 1 ≤ c) (p2 : c ≤ 100) (hI : Inv12 c was j now cal st) :
    awp tab (acall tab specs fns 100 20) [] 100 (loopAt Try.f4 12) (bodyK sh12 (fun _ => sh12) (fun y : XR2 => y.1 = c ∧ y.2.1 = was ∧ Inv12 c was y.2.2.1 y.2.2.2.1 y.2.2.2.2.1 y.2.2.2.2.2)
      (fun y => (2 * y.1 - y.2.2.1).toNat) (2 * c - j).toNat fun e y => e = .exit 2 ∧ y.1 = c ∧ y.2.1 = was ∧ Post12 was y.2.2.2.1) (sh12 (c, was, j, now, cal, st)) := by
  rw [body12]
  have hJ := hI
  obtain ⟨h1, ⟨q1, q2, q3⟩, h2⟩ := hI
  have em : mulW .i64 2 c = 2 * c := mulW64 (by omega) (by omega)
  have hc : calmF 3 0 0 true = true := by decide
  simp only [ifB_and, ltB_t, ltB_f, eqB_t, eqB_f, notB_t, notB_f, need, inI, eqI, eqL, true_and, em, hc, step_count q2, step_count q3, Prod.exists, Nat.succ_eq_add_one]
  refine ⟨fun hj => ⟨fun h => absurd h (by omega), fun _ => ⟨fun h => absurd h (by simp), fun _ => ?_⟩⟩, fun hj => ?_⟩
  · have e : addW .i64 j 1 = j + 1 := addW64 (by omega) (by omega)
    have hm : (2 * c - addW .i64 j 1).toNat + 1 ≤ (2 * c - j).toNat := by rw [e]; omega
    have hs := inv12_step p1 hJ hj rfl p2
    rw [← e] at hs
    exact ⟨fun hn => ⟨_, _, _, _, _, _, rfl, rfl, rfl, rfl, rfl, rfl, rfl, ⟨rfl, rfl, hs.1 hn⟩, hm⟩, fun hn => ⟨_, _, _, _, _, _, rfl, rfl, rfl, rfl, rfl, rfl, rfl, ⟨rfl, rfl, hs.2 hn⟩, hm⟩⟩
  · refine ⟨_, _, _, _, _, _, rfl, rfl, rfl, rfl, rfl, rfl, rfl, rfl, rfl, ?_⟩
    unfold need12 at h2
    unfold Post12
    (repeat' split at h2) <;> omega
theorem summ12 : SummOK Try.prog (loopAt Try.f4 12) S12 := by
  refine summOK_of (L := []) (fuel := 100) tabOK callS (fun C => draw_ok tabOK callS mixed C) loopsOK_nil sh12 (fun _ => sh12) (fun y => (2 * y.1 - y.2.2.1).toNat) ?_
  rintro Q σ ⟨c, was, now, cal, st, h⟩
  obtain ⟨hs, ⟨p0, p1, p2, hp⟩, hQ⟩ := leS_sound h
  refine ⟨(c, was, 0, now, cal, st), fun y => y.1 = c ∧ y.2.1 = was ∧ Inv12 c was y.2.2.1 y.2.2.2.1 y.2.2.2.2.1 y.2.2.2.2.2, fun e y => e = .exit 2 ∧ y.1 = c ∧ y.2.1 = was ∧ Post12 was y.2.2.2.1, hs, ?_, ?_, ?_⟩
  · refine ⟨rfl, rfl, ⟨by show (0 : Int) ≤ 0; omega, by show (0 : Int) ≤ 2 * c; omega⟩, hp, ?_⟩
    obtain ⟨q1, q2, q3⟩ := hp
    show was = 3 ∧ now = 3 ∨ was ≠ 3 ∧ now ≠ 3 ∧ 0 + need12 c now cal ≤ 2 * c
    unfold need12
    (repeat' split) <;> omega
  · rintro e ⟨c', was', j, now', cal', st'⟩ ⟨rfl, rfl, rfl, hp⟩
    exact hQ j now' cal' st' hp
  · rintro ⟨c', was', j, now', cal', st'⟩ ⟨rfl, rfl, hi⟩
    exact body12_ok p1 p2 hi
theorem fn4 : FnOK Try.prog 4 Try.f4 [(7, S7), (12, S12)] := fnOK_loops Try.func4 (fun vs w => Try.call4 vs w) (by kernel_rfl) fun k S h => by
  simp only [List.mem_cons, Prod.mk.injEq, List.not_mem_nil, or_false] at h
  rcases h with ⟨rfl, rfl⟩ | ⟨rfl, rfl⟩
  · exact summ7
  · exact summ12
theorem ModeRests_call : CallOK Try.prog (acall tab specs fns4 100 20) := acall_ok tabOK specsOK (fnsOK_cons fn4 fnsOK) (fun hC C => draw_ok tabOK hC mixed C) 20
theorem ModeRests_go (calm : Int) (l : List (den OpT)) : LawEv (acall tab specs fns4 100 20) 4 [.int .i64 calm, .view [] OpT l] := by
  refine ⟨?_⟩
  rw [ModeRests_eq]
  simp only [ifB_and, ltB_t, ltB_f, eqB_t, eqB_f, notB_t, notB_f, need, eqI, eqL, true_and, implies_true, ret_bool, Pre7, Pre12, Post12, view_eq]
  intro h1 h2 h3 h4
  refine ⟨calm, l, rfl, rfl, rfl, ⟨h1, h3, h4⟩, fun i now cal st hp => ⟨fun h => absurd h (by omega), fun _ => ⟨calm, now, now, cal, st, rfl, rfl, rfl, rfl, rfl, rfl, ⟨rfl, h1, h3, hp⟩, fun j now' cal' st' hpost => ?_⟩⟩⟩
  have hc : calm ≠ 0 := by omega
  rcases hpost with ⟨rfl, rfl⟩ | ⟨g1, rfl⟩
  · simp
  · simp [g1, hc]
theorem ModeRests_ev : ∀ xs : DT [(.int .i64), (.list (.prod (.int .i64) (.prod (.int .i64) (.prod (.int .i64) (.prod (.int .i64) .bool)))))], wfs [(.int .i64), (.list (.prod (.int .i64) (.prod (.int .i64) (.prod (.int .i64) (.prod (.int .i64) .bool)))))] xs → LawEv (acall tab specs fns4 100 20) 4 (argsA tab #[3, 27].toList [(.int .i64), (.list (.prod (.int .i64) (.prod (.int .i64) (.prod (.int .i64) (.prod (.int .i64) .bool)))))] xs) := by
  rintro ⟨calm, l, ⟨⟩⟩ _
  exact ModeRests_go calm l


theorem ModeRests_own : ownKnob Try.prog.godebug = none := by kernel_rfl
theorem ModeRests_kids : Kids Try.prog (· < Try.prog.types.size) := kids_rows (by kernel_rfl) (by kernel_rfl)
theorem ModeRests_full : ∀ t e, t < Try.prog.types.size → Try.prog.underlying t = some (.slice e) → 0 < Try.prog.cellsOf e := slices_full_of _ (by kernel_rfl)

theorem ModeRests_lifted (os : Os) (started : os.Started) (H : Type) (enc : TypeId × Value → H) :
    ReturnsInHanded {} Try.checked os 4 .any (Rows.modeRestsSpec.pre6 enc Try.prog Try.f4 Rows.modeRestsRow.domain false) (Rows.modeRestsSpec.post enc Try.prog Try.f4 false true false false) := by
  refine returnsInHanded_of_change_shaped (C := Try.checked) ModeRests_own started (by kernel_rfl) Try.func4
    (ChangeSpec.witness6 (enc := enc) (C := Try.checked) false ⟨#[], #[(Value.int IntKind.i64 0), (Value.slice none 0 0)], []⟩ 8 (by kernel_rfl) (by kernel_rfl) (by kernel_rfl) (by kernel_rfl)) ?_
  intro W base args ds gs before hval hW _ hwt _ _
  refine law_contract' (P := Try.prog) (fn := Try.f4) (s := Rows.modeRestsSpec) (tb := 4) (Ts := [(.int .i64), (.list (.prod (.int .i64) (.prod (.int .i64) (.prod (.int .i64) (.prod (.int .i64) .bool)))))]) (call := (acall tab specs fns4 100 20)) (f := 4) tabOK ModeRests_call ModeRests_kids ModeRests_full Try.params4 (by decide +kernel) rfl rfl Try.underlying4 ?_ (by kernel_rfl) ModeRests_ev hval hW hwt
  intro ds hl
  match ds, hl with
  | [d0, d1], _ => rfl

theorem ModeRests_holds : Rows.ModeRestsSaid :=
  OpenClaim.holds_of_wide 4 Try.f4 rfl rfl rfl rfl rfl rfl rfl ⟨rfl, rfl, rfl, rfl, rfl⟩ rfl rfl rfl rfl rfl (by kernel_rfl) Try.func4 (by kernel_rfl)
    (of_decide_eq_true (by kernel_rfl)) (by unfold Func.isWrapper; first | (rw [if_pos (by decide +kernel)]; kernel_rfl) | (rw [if_neg (by decide +kernel)]; exact ⟨rfl, rfl⟩))
    (fun os started H enc _ => ModeRests_lifted os started H enc)

end Go.Proofs.Ytbgifokhlbaapaa
