/- A replacement at the first place where a rule says so: all rules. -/
import Derived.Test.YtkdemkkepepbdaaSmPeepC
namespace Go.Proofs.Ytkdemkkepepbdaa.Sx
open Go.RowKit
set_option maxRecDepth 100000
set_option maxHeartbeats 4000000
set_option linter.unusedVariables false
set_option linter.unusedSimpArgs false
def tuV (to : List (den CodeT)) (f : Int) : AV := .fn (.func 16) [] [.vptr [] [.view [] CodeT to], .vptr [] [.int .i64 f]]
def twV (b : Bool) : AV := .fn (.func 18) [] [.vptr [] [.bool b]]
def idV (b : Bool) : AV := .fn (.func 20) [] [.vptr [] [.bool b]]
def R7 : List AV := [tuV [] 3, tuV [(1, 0, 0, 0)] 0, tuV [(0, 0, 0, 0)] 1, twV false, twV true, idV false, idV true]
inductive Rul where
  | tu (to : List (den CodeT)) (f : Int) | tw (b : Bool) | id (b : Bool)
def rulF : Rul → List (den CodeT) → Int → List (den CodeT) × Int × Bool
  | .tu to f, l, i => (to, 2, areF l i [f, 3])
  | .tw b, l, i => (twinsL b l i, twinsN b l i, twinsC b l i)
  | .id b, l, i => (idleL b l i, idleN l i, idleC b l i)
def putC (l : List (den CodeT)) (i : Int) (by_ : List (den CodeT)) (n : Int) : List (den CodeT) := subL l 0 i ++ by_ ++ subL l (i + n) (lenI l)
def pickR : List Rul → List (den CodeT) → Int → Option (List (den CodeT))
  | [], _, _ => none
  | r :: ks, l, i => if (rulF r l i).2.2 && decide (1 ≤ (rulF r l i).2.1) && decide ((rulF r l i).2.1 ≤ lenI l - i) then some (putC l i (rulF r l i).1 (rulF r l i).2.1) else pickR ks l i
def onceR (ks : List Rul) (l : List (den CodeT)) : Nat → Int → Option (List (den CodeT))
  | 0, _ => none
  | f + 1, i => match pickR ks l i with | some r => some r | none => onceR ks l f (i + 1)
def allK : List Rul := [.tu [] 3, .tu [(1, 0, 0, 0)] 0, .tu [(0, 0, 0, 0)] 1, .tw false, .tw true, .id false, .id true]
def pickB (ks : List Rul) (l : List (den CodeT)) (i : Int) : Bool := (pickR ks l i).isSome
def pickL (ks : List Rul) (l : List (den CodeT)) (i : Int) : List (den CodeT) := (pickR ks l i).getD []
def onceB (ks : List Rul) (l : List (den CodeT)) : Bool := (onceR ks l l.length 0).isSome
def onceL (ks : List Rul) (l : List (den CodeT)) : List (den CodeT) := (onceR ks l l.length 0).getD l
def fromB (ks : List Rul) (l : List (den CodeT)) (i : Int) : Bool := (onceR ks l (lenI l - i).toNat i).isSome
def smallC (l : List (den CodeT)) : Prop := lenI l ≤ 1000
def goodR (r : Rul) (l : List (den CodeT)) (i : Int) : Bool := (rulF r l i).2.2 && decide (1 ≤ (rulF r l i).2.1) && decide ((rulF r l i).2.1 ≤ lenI l - i)
theorem pick_cons {r : Rul} {ks : List Rul} {l : List (den CodeT)} {i : Int} : pickR (r :: ks) l i = if goodR r l i = true then some (putC l i (rulF r l i).1 (rulF r l i).2.1) else pickR ks l i := rfl
theorem good_tu {to : List (den CodeT)} {f : Int} {l : List (den CodeT)} {i : Int} (hs : subW .i64 (lenI l) i = lenI l - i) : selB (selB (areF l i [f, 3]) true false) (leB 2 (subW .i64 (lenI l) i)) false = goodR (.tu to f) l i := by
  rw [hs]; unfold goodR rulF leB; simp [selB_f]
theorem good_tw {b : Bool} {l : List (den CodeT)} {i : Int} (hs : subW .i64 (lenI l) i = lenI l - i) : selB (selB (twinsC b l i) (leB 1 (twinsN b l i)) false) (leB (twinsN b l i) (subW .i64 (lenI l) i)) false = goodR (.tw b) l i := by
  rw [hs]; unfold goodR rulF leB; simp [selB_f]
theorem good_id {b : Bool} {l : List (den CodeT)} {i : Int} (hs : subW .i64 (lenI l) i = lenI l - i) : selB (selB (idleC b l i) (leB 1 (idleN l i)) false) (leB (idleN l i) (subW .i64 (lenI l) i)) false = goodR (.id b) l i := by
  rw [hs]; unfold goodR rulF leB; simp [selB_f]
theorem join3 {a b c : List (den CodeT)} : joinC [a, b, c] = a ++ b ++ c := by unfold joinC; simp [List.flatten]
theorem sum3 {a b c : List (den CodeT)} : sumC [a, b, c] = lenI a + lenI b + lenI c := by
  show lenI (joinC [a, b, c]) = _
  rw [join3, lenI_app, lenI_app]
theorem subL_le {l : List (den CodeT)} {a b : Int} (h0 : 0 ≤ a) (h1 : a ≤ b) (h2 : b ≤ lenI l) : lenI (subL l a b) = b - a := by
  unfold subL lenI at *
  simp only [List.length_drop, List.length_take]
  omega
/-- what is asked where a rule says so -/
theorem put_ok {r : Rul} {l : List (den CodeT)} {i : Int} (h0 : 0 ≤ i) (h1 : i < lenI l) (hs : lenI l ≤ 1000) (hb : lenI (rulF r l i).1 ≤ 2) (hg : goodR r l i = true) :
    leI 0 0 ∧ leI 0 i ∧ leI i (lenI l) ∧ leI 0 (addW .i64 i (rulF r l i).2.1) ∧ leI (addW .i64 i (rulF r l i).2.1) (lenI l) ∧ leI (lenI l) (lenI l) ∧
    leI (sumC [subL l 0 i, (rulF r l i).1, subL l (addW .i64 i (rulF r l i).2.1) (lenI l)]) 1000000 ∧ joinC [subL l 0 i, (rulF r l i).1, subL l (addW .i64 i (rulF r l i).2.1) (lenI l)] = putC l i (rulF r l i).1 (rulF r l i).2.1 := by
  unfold goodR at hg
  simp only [Bool.and_eq_true, decide_eq_true_eq] at hg
  have hb0 := lenI_nn (rulF r l i).1
  generalize (rulF r l i).1 = by_ at *
  generalize (rulF r l i).2.1 = n at *
  have e : addW .i64 i n = i + n := addW64 (by omega) (by omega)
  rw [e, sum3, join3, subL_le (by omega) (by omega) (by omega), subL_le (by omega) (by omega) (by omega)]
  unfold leI
  exact ⟨by omega, by omega, by omega, by omega, by omega, by omega, by omega, rfl⟩
theorem tw_le {b : Bool} {l : List (den CodeT)} {i : Int} : lenI (twinsL b l i) ≤ 2 := by
  unfold twinsL; split <;> (try split) <;> simp [lenI]
theorem id_le {b : Bool} {l : List (den CodeT)} {i : Int} : lenI (idleL b l i) ≤ 2 := by
  unfold idleL; split <;> simp [lenI]
theorem pickB_some {ks : List Rul} {l x : List (den CodeT)} {i : Int} (h : pickR ks l i = some x) : pickB ks l i = true ∧ pickL ks l i = x := by
  unfold pickB pickL; rw [h]; exact ⟨rfl, rfl⟩
theorem pickB_none {ks : List Rul} {l : List (den CodeT)} {i : Int} (h : pickR ks l i = none) : pickB ks l i = false := by
  unfold pickB; rw [h]; rfl
abbrev X_onceJ := List (den CodeT) × List (den CodeT) × Int × Int × Int × Int × List (den CodeT) × Bool
def sh_onceJ : X_onceJ → St := fun x => match x with | (l, lent, i, n, i2, j, r4, r5) => ⟨setL (rep .bad 63) [(0, .view [] CodeT l), (6, .view [] CodeT lent), (7, .int .i64 i), (16, .int .i64 n), (17, .int .i64 i2), (22, .int .i64 j), (1, .vsl 0 0 7 7), (20, .vsl 0 0 7 7), (21, .int .i64 7)], [.var R7], [], []⟩
def shr_onceJ : X_onceJ → St := fun x => match x with | (l, lent, i, n, i2, j, r4, r5) => ⟨setL (rep .bad 63) [(0, .view [] CodeT l), (6, .view [] CodeT lent), (7, .int .i64 i), (16, .int .i64 n), (17, .int .i64 i2), (22, .int .i64 j), (4, .view [] CodeT r4), (5, .bool r5), (1, .vsl 0 0 7 7), (20, .vsl 0 0 7 7), (21, .int .i64 7)], [.var R7], [], []⟩
def sx_onceJ : AExit → X_onceJ → St := fun e => match e with | .ret => shr_onceJ | _ => sh_onceJ
def nx_onceJ (σ : St) : X_onceJ := (gV CodeT σ 0, gV CodeT σ 6, gI σ 7, gI σ 16, gI σ 17, gI σ 22, gV CodeT σ 4, gB σ 5)
def Pre_onceJ : X_onceJ → Prop := fun x => match x with | (l, lent, i, n, i2, j, r4, r5) => ((j = 0)) ∧ (inI i (lenI l) ∧ lent = l ∧ smallC l)
def E2_onceJ : X_onceJ → X_onceJ → Prop := fun x y => match x, y with | (l0, lent0, i0, n0, i20, j0, r40, r50), (l, lent, i, n, i2, j, r4, r5) => (l = l0 ∧ lent = lent0 ∧ i = i0 ∧ n = n0 ∧ i2 = i20) ∧ (pickB allK l i = false)
def R_onceJ : X_onceJ → X_onceJ → Prop := fun x y => match x, y with | (l0, lent0, i0, n0, i20, j0, r40, r50), (l, lent, i, n, i2, j, r4, r5) => (l = l0 ∧ lent = lent0 ∧ i = i0 ∧ n = n0 ∧ i2 = i20) ∧ (pickB allK l i = true ∧ r4 = pickL allK l i ∧ r5 = true)
def D_onceJ : X_onceJ → LEnds X_onceJ := fun x => ⟨[(2, E2_onceJ x)], R_onceJ x⟩
noncomputable def S_onceJ : Summ := summN sh_onceJ sx_onceJ nx_onceJ Pre_onceJ D_onceJ
theorem body_onceJ0 (EE2 RR : X_onceJ → Prop) (l : List (den CodeT)) (lent : List (den CodeT)) (i : Int) (n : Int) (i2 : Int) (r4 : List (den CodeT)) (r5 : Bool) : awp tab fs_concat (acall tab fs_concat specs_grow fns 100 20) [] 100 (.loop (loopAt Try.f14 6)) (bodyN sh_onceJ sx_onceJ nx_onceJ (fun _ => False) (fun _ => 0) 0 ⟨[(2, EE2)], RR⟩) (sh_onceJ (l, lent, i, n, i2, 0, r4, r5)) =
  (ifB (selB (selB (areF lent i (3 :: 3 :: @List.nil Int)) true false) (leB 2 (subW IntKind.i64 (lenI l) i)) false) (need (leI 0 0) (need (leI 0 i) (need (leI i (lenI
    l)) (need (leI 0 (addW IntKind.i64 i 2)) (need (leI (addW IntKind.i64 i 2) (lenI l)) (need (leI (lenI l) (lenI l)) (need (leI (sumC (subL l 0 i :: @List.nil (den
    CodeT) :: subL l (addW IntKind.i64 i 2) (lenI l) :: @List.nil (den CodeT.list))) 1000000) (eqDr l (needr (AV.vsl 0 0 7 7) (eqDr (joinC (subL l 0 i :: @List.nil (den
    CodeT) :: subL l (addW IntKind.i64 i 2) (lenI l) :: @List.nil (den CodeT.list))) (eqLr true (eqDr lent (eqIr i (eqIr n (eqIr i2 (needr (AV.vsl 0 0 7 7) (eqIr 7 (eqIr
    0 (needr (AV.fn (Fn.func 16) ([]) (AV.vptr [] (AV.view [] CodeT (@List.nil (den CodeT)) :: []) :: AV.vptr [] (AV.int IntKind.i64 3 :: []) :: [])) (needr (AV.fn (Fn.func
    16) ([]) (AV.vptr [] (AV.view [] CodeT (((1 : Int), (0 : Int), (0 : Int), (0 : Int)) :: @List.nil (den CodeT)) :: []) :: AV.vptr [] (AV.int IntKind.i64 0 :: [])
    :: [])) (needr (AV.fn (Fn.func 16) ([]) (AV.vptr [] (AV.view [] CodeT (((0 : Int), (0 : Int), (0 : Int), (0 : Int)) :: @List.nil (den CodeT)) :: []) :: AV.vptr []
    (AV.int IntKind.i64 1 :: []) :: [])) (needr (AV.fn (Fn.func 18) ([]) (AV.vptr [] (AV.bool false :: []) :: [])) (needr (AV.fn (Fn.func 18) ([]) (AV.vptr [] (AV.bool
    true :: []) :: [])) (needr (AV.fn (Fn.func 20) ([]) (AV.vptr [] (AV.bool false :: []) :: [])) (needr (AV.fn (Fn.func 20) ([]) (AV.vptr [] (AV.bool true :: []) ::
    [])) (RR (l, lent, i, n, i2, 0, joinC (subL l 0 i :: @List.nil (den CodeT) :: subL l (addW IntKind.i64 i 2) (lenI l) :: @List.nil (den CodeT.list)), true)))))))))))))))))))))))))))
    (ifB (selB (selB (areF lent i (0 :: 3 :: @List.nil Int)) true false) (leB 2 (subW IntKind.i64 (lenI l) i)) false) (need (leI 0 0) (need (leI 0 i) (need (leI i (lenI
    l)) (need (leI 0 (addW IntKind.i64 i 2)) (need (leI (addW IntKind.i64 i 2) (lenI l)) (need (leI (lenI l) (lenI l)) (need (leI (sumC (subL l 0 i :: (((1 : Int), (0
    : Int), (0 : Int), (0 : Int)) :: @List.nil (den CodeT)) :: subL l (addW IntKind.i64 i 2) (lenI l) :: @List.nil (den CodeT.list))) 1000000) (eqDr l (needr (AV.vsl
    0 0 7 7) (eqDr (joinC (subL l 0 i :: (((1 : Int), (0 : Int), (0 : Int), (0 : Int)) :: @List.nil (den CodeT)) :: subL l (addW IntKind.i64 i 2) (lenI l) :: @List.nil
    (den CodeT.list))) (eqLr true (eqDr lent (eqIr i (eqIr n (eqIr i2 (needr (AV.vsl 0 0 7 7) (eqIr 7 (eqIr 1 (needr (AV.fn (Fn.func 16) ([]) (AV.vptr [] (AV.view []
    CodeT (@List.nil (den CodeT)) :: []) :: AV.vptr [] (AV.int IntKind.i64 3 :: []) :: [])) (needr (AV.fn (Fn.func 16) ([]) (AV.vptr [] (AV.view [] CodeT (((1 : Int),
    (0 : Int), (0 : Int), (0 : Int)) :: @List.nil (den CodeT)) :: []) :: AV.vptr [] (AV.int IntKind.i64 0 :: []) :: [])) (needr (AV.fn (Fn.func 16) ([]) (AV.vptr []
    (AV.view [] CodeT (((0 : Int), (0 : Int), (0 : Int), (0 : Int)) :: @List.nil (den CodeT)) :: []) :: AV.vptr [] (AV.int IntKind.i64 1 :: []) :: [])) (needr (AV.fn
    (Fn.func 18) ([]) (AV.vptr [] (AV.bool false :: []) :: [])) (needr (AV.fn (Fn.func 18) ([]) (AV.vptr [] (AV.bool true :: []) :: [])) (needr (AV.fn (Fn.func 20) ([])
    (AV.vptr [] (AV.bool false :: []) :: [])) (needr (AV.fn (Fn.func 20) ([]) (AV.vptr [] (AV.bool true :: []) :: [])) (RR (l, lent, i, n, i2, 1, joinC (subL l 0 i ::
    (((1 : Int), (0 : Int), (0 : Int), (0 : Int)) :: @List.nil (den CodeT)) :: subL l (addW IntKind.i64 i 2) (lenI l) :: @List.nil (den CodeT.list)), true)))))))))))))))))))))))))))
    (ifB (selB (selB (areF lent i (1 :: 3 :: @List.nil Int)) true false) (leB 2 (subW IntKind.i64 (lenI l) i)) false) (need (leI 0 0) (need (leI 0 i) (need (leI i (lenI
    l)) (need (leI 0 (addW IntKind.i64 i 2)) (need (leI (addW IntKind.i64 i 2) (lenI l)) (need (leI (lenI l) (lenI l)) (need (leI (sumC (subL l 0 i :: (((0 : Int), (0
    : Int), (0 : Int), (0 : Int)) :: @List.nil (den CodeT)) :: subL l (addW IntKind.i64 i 2) (lenI l) :: @List.nil (den CodeT.list))) 1000000) (eqDr l (needr (AV.vsl
    0 0 7 7) (eqDr (joinC (subL l 0 i :: (((0 : Int), (0 : Int), (0 : Int), (0 : Int)) :: @List.nil (den CodeT)) :: subL l (addW IntKind.i64 i 2) (lenI l) :: @List.nil
    (den CodeT.list))) (eqLr true (eqDr lent (eqIr i (eqIr n (eqIr i2 (needr (AV.vsl 0 0 7 7) (eqIr 7 (eqIr 2 (needr (AV.fn (Fn.func 16) ([]) (AV.vptr [] (AV.view []
    CodeT (@List.nil (den CodeT)) :: []) :: AV.vptr [] (AV.int IntKind.i64 3 :: []) :: [])) (needr (AV.fn (Fn.func 16) ([]) (AV.vptr [] (AV.view [] CodeT (((1 : Int),
    (0 : Int), (0 : Int), (0 : Int)) :: @List.nil (den CodeT)) :: []) :: AV.vptr [] (AV.int IntKind.i64 0 :: []) :: [])) (needr (AV.fn (Fn.func 16) ([]) (AV.vptr []
    (AV.view [] CodeT (((0 : Int), (0 : Int), (0 : Int), (0 : Int)) :: @List.nil (den CodeT)) :: []) :: AV.vptr [] (AV.int IntKind.i64 1 :: []) :: [])) (needr (AV.fn
    (Fn.func 18) ([]) (AV.vptr [] (AV.bool false :: []) :: [])) (needr (AV.fn (Fn.func 18) ([]) (AV.vptr [] (AV.bool true :: []) :: [])) (needr (AV.fn (Fn.func 20) ([])
    (AV.vptr [] (AV.bool false :: []) :: [])) (needr (AV.fn (Fn.func 20) ([]) (AV.vptr [] (AV.bool true :: []) :: [])) (RR (l, lent, i, n, i2, 2, joinC (subL l 0 i ::
    (((0 : Int), (0 : Int), (0 : Int), (0 : Int)) :: @List.nil (den CodeT)) :: subL l (addW IntKind.i64 i 2) (lenI l) :: @List.nil (den CodeT.list)), true)))))))))))))))))))))))))))
    (ifB (selB (selB (twinsC false lent i) (leB 1 (twinsN false lent i)) false) (leB (twinsN false lent i) (subW IntKind.i64 (lenI l) i)) false) (need (leI 0 0) (need
    (leI 0 i) (need (leI i (lenI l)) (need (leI 0 (addW IntKind.i64 i (twinsN false lent i))) (need (leI (addW IntKind.i64 i (twinsN false lent i)) (lenI l)) (need (leI
    (lenI l) (lenI l)) (need (leI (sumC (subL l 0 i :: twinsL false lent i :: subL l (addW IntKind.i64 i (twinsN false lent i)) (lenI l) :: @List.nil (den CodeT.list)))
    1000000) (eqDr l (needr (AV.vsl 0 0 7 7) (eqDr (joinC (subL l 0 i :: twinsL false lent i :: subL l (addW IntKind.i64 i (twinsN false lent i)) (lenI l) :: @List.nil
    (den CodeT.list))) (eqLr true (eqDr lent (eqIr i (eqIr n (eqIr i2 (needr (AV.vsl 0 0 7 7) (eqIr 7 (eqIr 3 (needr (AV.fn (Fn.func 16) ([]) (AV.vptr [] (AV.view []
    CodeT (@List.nil (den CodeT)) :: []) :: AV.vptr [] (AV.int IntKind.i64 3 :: []) :: [])) (needr (AV.fn (Fn.func 16) ([]) (AV.vptr [] (AV.view [] CodeT (((1 : Int),
    (0 : Int), (0 : Int), (0 : Int)) :: @List.nil (den CodeT)) :: []) :: AV.vptr [] (AV.int IntKind.i64 0 :: []) :: [])) (needr (AV.fn (Fn.func 16) ([]) (AV.vptr []
    (AV.view [] CodeT (((0 : Int), (0 : Int), (0 : Int), (0 : Int)) :: @List.nil (den CodeT)) :: []) :: AV.vptr [] (AV.int IntKind.i64 1 :: []) :: [])) (needr (AV.fn
    (Fn.func 18) ([]) (AV.vptr [] (AV.bool false :: []) :: [])) (needr (AV.fn (Fn.func 18) ([]) (AV.vptr [] (AV.bool true :: []) :: [])) (needr (AV.fn (Fn.func 20) ([])
    (AV.vptr [] (AV.bool false :: []) :: [])) (needr (AV.fn (Fn.func 20) ([]) (AV.vptr [] (AV.bool true :: []) :: [])) (RR (l, lent, i, n, i2, 3, joinC (subL l 0 i ::
    twinsL false lent i :: subL l (addW IntKind.i64 i (twinsN false lent i)) (lenI l) :: @List.nil (den CodeT.list)), true))))))))))))))))))))))))))) (ifB (selB (selB
    (twinsC true lent i) (leB 1 (twinsN true lent i)) false) (leB (twinsN true lent i) (subW IntKind.i64 (lenI l) i)) false) (need (leI 0 0) (need (leI 0 i) (need (leI
    i (lenI l)) (need (leI 0 (addW IntKind.i64 i (twinsN true lent i))) (need (leI (addW IntKind.i64 i (twinsN true lent i)) (lenI l)) (need (leI (lenI l) (lenI l))
    (need (leI (sumC (subL l 0 i :: twinsL true lent i :: subL l (addW IntKind.i64 i (twinsN true lent i)) (lenI l) :: @List.nil (den CodeT.list))) 1000000) (eqDr l
    (needr (AV.vsl 0 0 7 7) (eqDr (joinC (subL l 0 i :: twinsL true lent i :: subL l (addW IntKind.i64 i (twinsN true lent i)) (lenI l) :: @List.nil (den CodeT.list)))
    (eqLr true (eqDr lent (eqIr i (eqIr n (eqIr i2 (needr (AV.vsl 0 0 7 7) (eqIr 7 (eqIr 4 (needr (AV.fn (Fn.func 16) ([]) (AV.vptr [] (AV.view [] CodeT (@List.nil (den
    CodeT)) :: []) :: AV.vptr [] (AV.int IntKind.i64 3 :: []) :: [])) (needr (AV.fn (Fn.func 16) ([]) (AV.vptr [] (AV.view [] CodeT (((1 : Int), (0 : Int), (0 : Int),
    (0 : Int)) :: @List.nil (den CodeT)) :: []) :: AV.vptr [] (AV.int IntKind.i64 0 :: []) :: [])) (needr (AV.fn (Fn.func 16) ([]) (AV.vptr [] (AV.view [] CodeT (((0
    : Int), (0 : Int), (0 : Int), (0 : Int)) :: @List.nil (den CodeT)) :: []) :: AV.vptr [] (AV.int IntKind.i64 1 :: []) :: [])) (needr (AV.fn (Fn.func 18) ([]) (AV.vptr
    [] (AV.bool false :: []) :: [])) (needr (AV.fn (Fn.func 18) ([]) (AV.vptr [] (AV.bool true :: []) :: [])) (needr (AV.fn (Fn.func 20) ([]) (AV.vptr [] (AV.bool false
    :: []) :: [])) (needr (AV.fn (Fn.func 20) ([]) (AV.vptr [] (AV.bool true :: []) :: [])) (RR (l, lent, i, n, i2, 4, joinC (subL l 0 i :: twinsL true lent i :: subL
    l (addW IntKind.i64 i (twinsN true lent i)) (lenI l) :: @List.nil (den CodeT.list)), true))))))))))))))))))))))))))) (ifB (selB (selB (idleC false lent i) (leB 1
    (idleN lent i)) false) (leB (idleN lent i) (subW IntKind.i64 (lenI l) i)) false) (need (leI 0 0) (need (leI 0 i) (need (leI i (lenI l)) (need (leI 0 (addW IntKind.i64
    i (idleN lent i))) (need (leI (addW IntKind.i64 i (idleN lent i)) (lenI l)) (need (leI (lenI l) (lenI l)) (need (leI (sumC (subL l 0 i :: idleL false lent i :: subL
    l (addW IntKind.i64 i (idleN lent i)) (lenI l) :: @List.nil (den CodeT.list))) 1000000) (eqDr l (needr (AV.vsl 0 0 7 7) (eqDr (joinC (subL l 0 i :: idleL false lent
    i :: subL l (addW IntKind.i64 i (idleN lent i)) (lenI l) :: @List.nil (den CodeT.list))) (eqLr true (eqDr lent (eqIr i (eqIr n (eqIr i2 (needr (AV.vsl 0 0 7 7) (eqIr
    7 (eqIr 5 (needr (AV.fn (Fn.func 16) ([]) (AV.vptr [] (AV.view [] CodeT (@List.nil (den CodeT)) :: []) :: AV.vptr [] (AV.int IntKind.i64 3 :: []) :: [])) (needr
    (AV.fn (Fn.func 16) ([]) (AV.vptr [] (AV.view [] CodeT (((1 : Int), (0 : Int), (0 : Int), (0 : Int)) :: @List.nil (den CodeT)) :: []) :: AV.vptr [] (AV.int IntKind.i64
    0 :: []) :: [])) (needr (AV.fn (Fn.func 16) ([]) (AV.vptr [] (AV.view [] CodeT (((0 : Int), (0 : Int), (0 : Int), (0 : Int)) :: @List.nil (den CodeT)) :: []) ::
    AV.vptr [] (AV.int IntKind.i64 1 :: []) :: [])) (needr (AV.fn (Fn.func 18) ([]) (AV.vptr [] (AV.bool false :: []) :: [])) (needr (AV.fn (Fn.func 18) ([]) (AV.vptr
    [] (AV.bool true :: []) :: [])) (needr (AV.fn (Fn.func 20) ([]) (AV.vptr [] (AV.bool false :: []) :: [])) (needr (AV.fn (Fn.func 20) ([]) (AV.vptr [] (AV.bool true
    :: []) :: [])) (RR (l, lent, i, n, i2, 5, joinC (subL l 0 i :: idleL false lent i :: subL l (addW IntKind.i64 i (idleN lent i)) (lenI l) :: @List.nil (den CodeT.list)),
    true))))))))))))))))))))))))))) (ifB (selB (selB (idleC true lent i) (leB 1 (idleN lent i)) false) (leB (idleN lent i) (subW IntKind.i64 (lenI l) i)) false) (need
    (leI 0 0) (need (leI 0 i) (need (leI i (lenI l)) (need (leI 0 (addW IntKind.i64 i (idleN lent i))) (need (leI (addW IntKind.i64 i (idleN lent i)) (lenI l)) (need
    (leI (lenI l) (lenI l)) (need (leI (sumC (subL l 0 i :: idleL true lent i :: subL l (addW IntKind.i64 i (idleN lent i)) (lenI l) :: @List.nil (den CodeT.list)))
    1000000) (eqDr l (needr (AV.vsl 0 0 7 7) (eqDr (joinC (subL l 0 i :: idleL true lent i :: subL l (addW IntKind.i64 i (idleN lent i)) (lenI l) :: @List.nil (den CodeT.list)))
    (eqLr true (eqDr lent (eqIr i (eqIr n (eqIr i2 (needr (AV.vsl 0 0 7 7) (eqIr 7 (eqIr 6 (needr (AV.fn (Fn.func 16) ([]) (AV.vptr [] (AV.view [] CodeT (@List.nil (den
    CodeT)) :: []) :: AV.vptr [] (AV.int IntKind.i64 3 :: []) :: [])) (needr (AV.fn (Fn.func 16) ([]) (AV.vptr [] (AV.view [] CodeT (((1 : Int), (0 : Int), (0 : Int),
    (0 : Int)) :: @List.nil (den CodeT)) :: []) :: AV.vptr [] (AV.int IntKind.i64 0 :: []) :: [])) (needr (AV.fn (Fn.func 16) ([]) (AV.vptr [] (AV.view [] CodeT (((0
    : Int), (0 : Int), (0 : Int), (0 : Int)) :: @List.nil (den CodeT)) :: []) :: AV.vptr [] (AV.int IntKind.i64 1 :: []) :: [])) (needr (AV.fn (Fn.func 18) ([]) (AV.vptr
    [] (AV.bool false :: []) :: [])) (needr (AV.fn (Fn.func 18) ([]) (AV.vptr [] (AV.bool true :: []) :: [])) (needr (AV.fn (Fn.func 20) ([]) (AV.vptr [] (AV.bool false
    :: []) :: [])) (needr (AV.fn (Fn.func 20) ([]) (AV.vptr [] (AV.bool true :: []) :: [])) (RR (l, lent, i, n, i2, 6, joinC (subL l 0 i :: idleL true lent i :: subL
    l (addW IntKind.i64 i (idleN lent i)) (lenI l) :: @List.nil (den CodeT.list)), true))))))))))))))))))))))))))) (eqDr l (needr (AV.vsl 0 0 7 7) (eqDr lent (eqIr i
    (eqIr n (eqIr i2 (needr (AV.vsl 0 0 7 7) (eqIr 7 (eqIr 7 (needr (AV.fn (Fn.func 16) ([]) (AV.vptr [] (AV.view [] CodeT (@List.nil (den CodeT)) :: []) :: AV.vptr
    [] (AV.int IntKind.i64 3 :: []) :: [])) (needr (AV.fn (Fn.func 16) ([]) (AV.vptr [] (AV.view [] CodeT (((1 : Int), (0 : Int), (0 : Int), (0 : Int)) :: @List.nil
    (den CodeT)) :: []) :: AV.vptr [] (AV.int IntKind.i64 0 :: []) :: [])) (needr (AV.fn (Fn.func 16) ([]) (AV.vptr [] (AV.view [] CodeT (((0 : Int), (0 : Int), (0 :
    Int), (0 : Int)) :: @List.nil (den CodeT)) :: []) :: AV.vptr [] (AV.int IntKind.i64 1 :: []) :: [])) (needr (AV.fn (Fn.func 18) ([]) (AV.vptr [] (AV.bool false ::
    []) :: [])) (needr (AV.fn (Fn.func 18) ([]) (AV.vptr [] (AV.bool true :: []) :: [])) (needr (AV.fn (Fn.func 20) ([]) (AV.vptr [] (AV.bool false :: []) :: [])) (needr
    (AV.fn (Fn.func 20) ([]) (AV.vptr [] (AV.bool true :: []) :: [])) (EE2 (l, lent, i, n, i2, 7, @List.nil (den CodeT), false))))))))))))))))))))))))) := by kernel_rfl
theorem body_onceJ_ok : ∀ x, Pre_onceJ x → wfS (sh_onceJ x) → Hd (awp tab fs_concat (acall tab fs_concat specs_grow fns 100 20) [] 100 (.loop (loopAt Try.f14 6)) (bodyN sh_onceJ sx_onceJ nx_onceJ (fun _ => False) (fun _ => 0) 0 (D_onceJ x)) (sh_onceJ x)) := by
  rintro ⟨l0, lent0, i0, n0, i20, j0, r40, r50⟩ hp hw
  obtain ⟨hc, hp⟩ := hp
  have hp : inI i0 (lenI l0) ∧ lent0 = l0 ∧ smallC l0 := hp
  unfold D_onceJ
  have hE2 : ∀ (j : Int) (r4 : List (den CodeT)) (r5 : Bool), (pickB allK l0 i0 = false) → E2_onceJ (l0, lent0, i0, n0, i20, j0, r40, r50) (l0, lent0, i0, n0, i20, j, r4, r5) := fun _ _ _ h => ⟨⟨rfl, rfl, rfl, rfl, rfl⟩, h⟩
  generalize E2_onceJ (l0, lent0, i0, n0, i20, j0, r40, r50) = EE2 at hE2 ⊢
  have hR : ∀ (j : Int) (r4 : List (den CodeT)) (r5 : Bool), (pickB allK l0 i0 = true ∧ r4 = pickL allK l0 i0 ∧ r5 = true) → R_onceJ (l0, lent0, i0, n0, i20, j0, r40, r50) (l0, lent0, i0, n0, i20, j, r4, r5) := fun _ _ _ h => ⟨⟨rfl, rfl, rfl, rfl, rfl⟩, h⟩
  generalize R_onceJ (l0, lent0, i0, n0, i20, j0, r40, r50) = RR at hR ⊢
  rcases hc with rfl
  · rw [body_onceJ0]
    refine ⟨?_⟩
    obtain ⟨⟨hi0, hi1⟩, hll, hsm⟩ := hp
    have hll := hll.symm
    subst hll
    unfold smallC at hsm
    have hs : subW .i64 (lenI l0) i0 = lenI l0 - i0 := subW64 (by omega) (by omega)
    have c0 := good_tu (to := []) (f := 3) (l := l0) (i := i0) hs
    have c1 := good_tu (to := [(1, 0, 0, 0)]) (f := 0) (l := l0) (i := i0) hs
    have c2 := good_tu (to := [(0, 0, 0, 0)]) (f := 1) (l := l0) (i := i0) hs
    have c3 := good_tw (b := false) (l := l0) (i := i0) hs
    have c4 := good_tw (b := true) (l := l0) (i := i0) hs
    have c5 := good_id (b := false) (l := l0) (i := i0) hs
    have c6 := good_id (b := true) (l := l0) (i := i0) hs
    rw [c0, c1, c2, c3, c4, c5, c6]
    clear c0 c1 c2 c3 c4 c5 c6
    rw [ifB_def]
    refine ⟨fun g0 => ?_, fun g0 => ?_⟩
    · have hq := put_ok (r := (.tu [] 3)) hi0 hi1 hsm (by show lenI (_ : List (den CodeT)) ≤ 2; simp [lenI, rulF]) g0
      obtain ⟨q1, q2, q3, q4, q5, q6, q7, q8⟩ := hq
      have hpk : pickR allK l0 i0 = some (putC l0 i0 (([] : List (den CodeT))) (2)) := by unfold allK; simp only [pick_cons, g0, if_true, Bool.false_eq_true, if_false]; rfl
      have hpb := pickB_some hpk
      refine ⟨q1, q2, q3, q4, q5, q6, q7, ?_⟩
      simp only [eqI_def, eqL_def, eqD_def, need_def, true_and, and_true]
      exact hR _ _ _ ⟨hpb.1, q8.trans hpb.2.symm, rfl⟩
    rw [ifB_def]
    refine ⟨fun g1 => ?_, fun g1 => ?_⟩
    · have hq := put_ok (r := (.tu [(1, 0, 0, 0)] 0)) hi0 hi1 hsm (by show lenI (_ : List (den CodeT)) ≤ 2; simp [lenI, rulF]) g1
      obtain ⟨q1, q2, q3, q4, q5, q6, q7, q8⟩ := hq
      have hpk : pickR allK l0 i0 = some (putC l0 i0 ([(1, 0, 0, 0)]) (2)) := by unfold allK; simp only [pick_cons, g0, g1, if_true, Bool.false_eq_true, if_false]; rfl
      have hpb := pickB_some hpk
      refine ⟨q1, q2, q3, q4, q5, q6, q7, ?_⟩
      simp only [eqI_def, eqL_def, eqD_def, need_def, true_and, and_true]
      exact hR _ _ _ ⟨hpb.1, q8.trans hpb.2.symm, rfl⟩
    rw [ifB_def]
    refine ⟨fun g2 => ?_, fun g2 => ?_⟩
    · have hq := put_ok (r := (.tu [(0, 0, 0, 0)] 1)) hi0 hi1 hsm (by show lenI (_ : List (den CodeT)) ≤ 2; simp [lenI, rulF]) g2
      obtain ⟨q1, q2, q3, q4, q5, q6, q7, q8⟩ := hq
      have hpk : pickR allK l0 i0 = some (putC l0 i0 ([(0, 0, 0, 0)]) (2)) := by unfold allK; simp only [pick_cons, g0, g1, g2, if_true, Bool.false_eq_true, if_false]; rfl
      have hpb := pickB_some hpk
      refine ⟨q1, q2, q3, q4, q5, q6, q7, ?_⟩
      simp only [eqI_def, eqL_def, eqD_def, need_def, true_and, and_true]
      exact hR _ _ _ ⟨hpb.1, q8.trans hpb.2.symm, rfl⟩
    rw [ifB_def]
    refine ⟨fun g3 => ?_, fun g3 => ?_⟩
    · have hq := put_ok (r := (.tw false)) hi0 hi1 hsm tw_le g3
      obtain ⟨q1, q2, q3, q4, q5, q6, q7, q8⟩ := hq
      have hpk : pickR allK l0 i0 = some (putC l0 i0 (twinsL false l0 i0) (twinsN false l0 i0)) := by unfold allK; simp only [pick_cons, g0, g1, g2, g3, if_true, Bool.false_eq_true, if_false]; rfl
      have hpb := pickB_some hpk
      refine ⟨q1, q2, q3, q4, q5, q6, q7, ?_⟩
      simp only [eqI_def, eqL_def, eqD_def, need_def, true_and, and_true]
      exact hR _ _ _ ⟨hpb.1, q8.trans hpb.2.symm, rfl⟩
    rw [ifB_def]
    refine ⟨fun g4 => ?_, fun g4 => ?_⟩
    · have hq := put_ok (r := (.tw true)) hi0 hi1 hsm tw_le g4
      obtain ⟨q1, q2, q3, q4, q5, q6, q7, q8⟩ := hq
      have hpk : pickR allK l0 i0 = some (putC l0 i0 (twinsL true l0 i0) (twinsN true l0 i0)) := by unfold allK; simp only [pick_cons, g0, g1, g2, g3, g4, if_true, Bool.false_eq_true, if_false]; rfl
      have hpb := pickB_some hpk
      refine ⟨q1, q2, q3, q4, q5, q6, q7, ?_⟩
      simp only [eqI_def, eqL_def, eqD_def, need_def, true_and, and_true]
      exact hR _ _ _ ⟨hpb.1, q8.trans hpb.2.symm, rfl⟩
    rw [ifB_def]
    refine ⟨fun g5 => ?_, fun g5 => ?_⟩
    · have hq := put_ok (r := (.id false)) hi0 hi1 hsm id_le g5
      obtain ⟨q1, q2, q3, q4, q5, q6, q7, q8⟩ := hq
      have hpk : pickR allK l0 i0 = some (putC l0 i0 (idleL false l0 i0) (idleN l0 i0)) := by unfold allK; simp only [pick_cons, g0, g1, g2, g3, g4, g5, if_true, Bool.false_eq_true, if_false]; rfl
      have hpb := pickB_some hpk
      refine ⟨q1, q2, q3, q4, q5, q6, q7, ?_⟩
      simp only [eqI_def, eqL_def, eqD_def, need_def, true_and, and_true]
      exact hR _ _ _ ⟨hpb.1, q8.trans hpb.2.symm, rfl⟩
    rw [ifB_def]
    refine ⟨fun g6 => ?_, fun g6 => ?_⟩
    · have hq := put_ok (r := (.id true)) hi0 hi1 hsm id_le g6
      obtain ⟨q1, q2, q3, q4, q5, q6, q7, q8⟩ := hq
      have hpk : pickR allK l0 i0 = some (putC l0 i0 (idleL true l0 i0) (idleN l0 i0)) := by unfold allK; simp only [pick_cons, g0, g1, g2, g3, g4, g5, g6, if_true, Bool.false_eq_true, if_false]; rfl
      have hpb := pickB_some hpk
      refine ⟨q1, q2, q3, q4, q5, q6, q7, ?_⟩
      simp only [eqI_def, eqL_def, eqD_def, need_def, true_and, and_true]
      exact hR _ _ _ ⟨hpb.1, q8.trans hpb.2.symm, rfl⟩
    have hpk : pickR allK l0 i0 = none := by unfold allK; simp only [pick_cons, g0, g1, g2, g3, g4, g5, g6, Bool.false_eq_true, if_false]; rfl
    simp only [eqI_def, eqL_def, eqD_def, need_def, true_and, and_true]
    exact hE2 _ _ _ (pickB_none hpk)
theorem summ_onceJ : SummOK Try.prog (loopAt Try.f14 6) S_onceJ :=
  summW_ok (L := []) (fuel := 100) tabOK fsOK_concat (mkCall fsOK_concat specsOK_grow fnsOK) (fun C => mkDraw fsOK_concat (mkCall fsOK_concat specsOK_grow fnsOK) C) loopsOK_nil body_onceJ_ok
end Go.Proofs.Ytkdemkkepepbdaa.Sx

