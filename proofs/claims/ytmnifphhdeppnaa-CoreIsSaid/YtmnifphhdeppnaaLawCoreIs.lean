/- Ytmnifphhdeppnaa: the law CoreIs returns true for every input, and its arguments read as they did: no condition. -/
import Derived.Test.YtmnifphhdeppnaaRows
import Derived.Test.YtmnifphhdeppnaaSxV
import Derived.Test.YtmnifphhdeppnaaSmCoreL
import Derived.Test.YtmnifphhdeppnaaPlCoreR
import Derived.HandedShaped
namespace Go.Proofs.Ytmnifphhdeppnaa
open Go.ChangeShapes Go.WideShapes Go.ChangeAt Go.RowKit Sx
set_option maxRecDepth 100000
set_option linter.unusedVariables false
set_option linter.unusedSimpArgs false
set_option maxHeartbeats 4000000

def adjP (n : List (den NodeT)) : Prop := adj n
abbrev X_isL := List (den NodeT) × Int × Bool
def sh_isL : X_isL → St := fun x => match x with | (c, i, r) => ⟨setL (rep .bad 93) [(3, .view [] NodeT c), (5, .int .i64 i)], [], [0, 1, 2, 3], [0, 1, 2, 3]⟩
def shr_isL : X_isL → St := fun x => match x with | (c, i, r) => ⟨setL (rep .bad 93) [(3, .view [] NodeT c), (5, .int .i64 i), (2, .bool r)], [], [0, 1, 2, 3], [0, 1, 2, 3]⟩
def sx_isL : AExit → X_isL → St := fun e => match e with | .ret => shr_isL | _ => sh_isL
def nx_isL (σ : St) : X_isL := (gV NodeT σ 3, gI σ 5, gB σ 2)
def Pre_isL : X_isL → Prop := fun x => match x with | (c, i, r) => i = 0 ∧ adjP c ∧ lenI c ≤ 1000000
def E0_isL : X_isL → X_isL → Prop := fun x y => match x, y with | (c0, i0, r0), (c, i, r) => (c = c0) ∧ (True)
def R_isL : X_isL → X_isL → Prop := fun x y => match x, y with | (c0, i0, r0), (c, i, r) => (c = c0) ∧ (r = false ∧ False)
def D_isL : X_isL → LEnds X_isL := fun x => ⟨[(0, E0_isL x)], R_isL x⟩
noncomputable def S_isL : Summ := summN sh_isL sx_isL nx_isL Pre_isL D_isL
def Inv_isL : X_isL → X_isL → Prop := fun x y => match x, y with | (c0, i0, r0), (c, i, r) => (c = c0) ∧ (0 ≤ i ∧ i ≤ lenI c)
def M_isL : X_isL → X_isL → Nat := fun x y => match x, y with | (c0, i0, r0), (c, i, r) => (lenI c - i).toNat
theorem body_isL (Inv : X_isL → Prop) (meas : X_isL → Nat) (nn : Nat) (EE0 RR : X_isL → Prop) (c : List (den NodeT)) (i : Int) (r : Bool) : awp tab fs_alive (acall tab fs_alive specs_copiedS fns 100 20) [] 100 (loopAt Try.f5 9) (bodyN sh_isL sx_isL nx_isL Inv meas nn ⟨[(0, EE0)], RR⟩) (sh_isL (c, i, r)) =
  (ifB (ltB (addW IntKind.i64 i 1) (lenI c)) (need (inI i (lenI c)) (need (inI (addW IntKind.i64 i 1) (lenI c)) (need (AV.view (@List.nil Nat) NodeT c = AV.view (@List.nil
    Nat) NodeT c) (eqI i i (need (inI i (lenI c)) (need (AV.vptr (@List.nil Nat) (AV.int IntKind.i64 (nth NodeT c i).fst :: AV.int IntKind.i64 (nth NodeT c i).snd.fst
    :: AV.int IntKind.i64 (nth NodeT c i).snd.snd.fst :: AV.int IntKind.i64 (nth NodeT c i).snd.snd.snd.fst :: AV.view (@List.nil Nat) TermT (nth NodeT c i).snd.snd.snd.snd.fst
    :: AV.int IntKind.i64 (nth NodeT c i).snd.snd.snd.snd.snd :: @List.nil AV) = AV.vptr (@List.nil Nat) (AV.int IntKind.i64 (nth NodeT c i).fst :: AV.int IntKind.i64
    (nth NodeT c i).snd.fst :: AV.int IntKind.i64 (nth NodeT c i).snd.snd.fst :: AV.int IntKind.i64 (nth NodeT c i).snd.snd.snd.fst :: AV.view (@List.nil Nat) TermT
    (nth NodeT c i).snd.snd.snd.snd.fst :: AV.int IntKind.i64 (nth NodeT c i).snd.snd.snd.snd.snd :: @List.nil AV)) (eqI (nth NodeT c i).fst (nth NodeT c i).fst (eqI
    (nth NodeT c i).snd.fst (nth NodeT c i).snd.fst (eqI (nth NodeT c i).snd.snd.fst (nth NodeT c i).snd.snd.fst (eqI (nth NodeT c i).snd.snd.snd.fst (nth NodeT c i).snd.snd.snd.fst
    (need (AV.view (@List.nil Nat) TermT (nth NodeT c i).snd.snd.snd.snd.fst = AV.view (@List.nil Nat) TermT (nth NodeT c i).snd.snd.snd.snd.fst) (eqI (nth NodeT c i).snd.snd.snd.snd.snd
    (nth NodeT c i).snd.snd.snd.snd.snd (need (AV.view (@List.nil Nat) NodeT c = AV.view (@List.nil Nat) NodeT c) (eqI i i (eqI (addW IntKind.i64 i 1) (addW IntKind.i64
    i 1) (need (inI (addW IntKind.i64 i 1) (lenI c)) (need (AV.vptr (@List.nil Nat) (AV.int IntKind.i64 (nth NodeT c (addW IntKind.i64 i 1)).fst :: AV.int IntKind.i64
    (nth NodeT c (addW IntKind.i64 i 1)).snd.fst :: AV.int IntKind.i64 (nth NodeT c (addW IntKind.i64 i 1)).snd.snd.fst :: AV.int IntKind.i64 (nth NodeT c (addW IntKind.i64
    i 1)).snd.snd.snd.fst :: AV.view (@List.nil Nat) TermT (nth NodeT c (addW IntKind.i64 i 1)).snd.snd.snd.snd.fst :: AV.int IntKind.i64 (nth NodeT c (addW IntKind.i64
    i 1)).snd.snd.snd.snd.snd :: @List.nil AV) = AV.vptr (@List.nil Nat) (AV.int IntKind.i64 (nth NodeT c (addW IntKind.i64 i 1)).fst :: AV.int IntKind.i64 (nth NodeT
    c (addW IntKind.i64 i 1)).snd.fst :: AV.int IntKind.i64 (nth NodeT c (addW IntKind.i64 i 1)).snd.snd.fst :: AV.int IntKind.i64 (nth NodeT c (addW IntKind.i64 i 1)).snd.snd.snd.fst
    :: AV.view (@List.nil Nat) TermT (nth NodeT c (addW IntKind.i64 i 1)).snd.snd.snd.snd.fst :: AV.int IntKind.i64 (nth NodeT c (addW IntKind.i64 i 1)).snd.snd.snd.snd.snd
    :: @List.nil AV)) (eqI (nth NodeT c (addW IntKind.i64 i 1)).fst (nth NodeT c (addW IntKind.i64 i 1)).fst (eqI (nth NodeT c (addW IntKind.i64 i 1)).snd.fst (nth NodeT
    c (addW IntKind.i64 i 1)).snd.fst (eqI (nth NodeT c (addW IntKind.i64 i 1)).snd.snd.fst (nth NodeT c (addW IntKind.i64 i 1)).snd.snd.fst (eqI (nth NodeT c (addW
    IntKind.i64 i 1)).snd.snd.snd.fst (nth NodeT c (addW IntKind.i64 i 1)).snd.snd.snd.fst (need (AV.view (@List.nil Nat) TermT (nth NodeT c (addW IntKind.i64 i 1)).snd.snd.snd.snd.fst
    = AV.view (@List.nil Nat) TermT (nth NodeT c (addW IntKind.i64 i 1)).snd.snd.snd.snd.fst) (eqI (nth NodeT c (addW IntKind.i64 i 1)).snd.snd.snd.snd.snd (nth NodeT
    c (addW IntKind.i64 i 1)).snd.snd.snd.snd.snd (need (need (AV.view (@List.nil Nat) NodeT c = AV.view (@List.nil Nat) NodeT c) (eqI i i (need (inI i (lenI c)) (need
    (AV.vptr (@List.nil Nat) (AV.int IntKind.i64 (nth NodeT c i).fst :: AV.int IntKind.i64 (nth NodeT c i).snd.fst :: AV.int IntKind.i64 (nth NodeT c i).snd.snd.fst
    :: AV.int IntKind.i64 (nth NodeT c i).snd.snd.snd.fst :: AV.view (@List.nil Nat) TermT (nth NodeT c i).snd.snd.snd.snd.fst :: AV.int IntKind.i64 (nth NodeT c i).snd.snd.snd.snd.snd
    :: @List.nil AV) = AV.vptr (@List.nil Nat) (AV.int IntKind.i64 (nth NodeT c i).fst :: AV.int IntKind.i64 (nth NodeT c i).snd.fst :: AV.int IntKind.i64 (nth NodeT
    c i).snd.snd.fst :: AV.int IntKind.i64 (nth NodeT c i).snd.snd.snd.fst :: AV.view (@List.nil Nat) TermT (nth NodeT c i).snd.snd.snd.snd.fst :: AV.int IntKind.i64
    (nth NodeT c i).snd.snd.snd.snd.snd :: @List.nil AV)) (eqI (nth NodeT c i).fst (nth NodeT c i).fst (eqI (nth NodeT c i).snd.fst (nth NodeT c i).snd.fst (eqI (nth
    NodeT c i).snd.snd.fst (nth NodeT c i).snd.snd.fst (eqI (nth NodeT c i).snd.snd.snd.fst (nth NodeT c i).snd.snd.snd.fst (need (AV.view (@List.nil Nat) TermT (nth
    NodeT c i).snd.snd.snd.snd.fst = AV.view (@List.nil Nat) TermT (nth NodeT c i).snd.snd.snd.snd.fst) (eqI (nth NodeT c i).snd.snd.snd.snd.snd (nth NodeT c i).snd.snd.snd.snd.snd
    (need (AV.view (@List.nil Nat) NodeT c = AV.view (@List.nil Nat) NodeT c) (eqI i i (eqI (addW IntKind.i64 i 1) (addW IntKind.i64 i 1) (need (inI (addW IntKind.i64
    i 1) (lenI c)) (need (AV.vptr (@List.nil Nat) (AV.int IntKind.i64 (nth NodeT c (addW IntKind.i64 i 1)).fst :: AV.int IntKind.i64 (nth NodeT c (addW IntKind.i64 i
    1)).snd.fst :: AV.int IntKind.i64 (nth NodeT c (addW IntKind.i64 i 1)).snd.snd.fst :: AV.int IntKind.i64 (nth NodeT c (addW IntKind.i64 i 1)).snd.snd.snd.fst ::
    AV.view (@List.nil Nat) TermT (nth NodeT c (addW IntKind.i64 i 1)).snd.snd.snd.snd.fst :: AV.int IntKind.i64 (nth NodeT c (addW IntKind.i64 i 1)).snd.snd.snd.snd.snd
    :: @List.nil AV) = AV.vptr (@List.nil Nat) (AV.int IntKind.i64 (nth NodeT c (addW IntKind.i64 i 1)).fst :: AV.int IntKind.i64 (nth NodeT c (addW IntKind.i64 i 1)).snd.fst
    :: AV.int IntKind.i64 (nth NodeT c (addW IntKind.i64 i 1)).snd.snd.fst :: AV.int IntKind.i64 (nth NodeT c (addW IntKind.i64 i 1)).snd.snd.snd.fst :: AV.view (@List.nil
    Nat) TermT (nth NodeT c (addW IntKind.i64 i 1)).snd.snd.snd.snd.fst :: AV.int IntKind.i64 (nth NodeT c (addW IntKind.i64 i 1)).snd.snd.snd.snd.snd :: @List.nil AV))
    (eqI (nth NodeT c (addW IntKind.i64 i 1)).fst (nth NodeT c (addW IntKind.i64 i 1)).fst (eqI (nth NodeT c (addW IntKind.i64 i 1)).snd.fst (nth NodeT c (addW IntKind.i64
    i 1)).snd.fst (eqI (nth NodeT c (addW IntKind.i64 i 1)).snd.snd.fst (nth NodeT c (addW IntKind.i64 i 1)).snd.snd.fst (eqI (nth NodeT c (addW IntKind.i64 i 1)).snd.snd.snd.fst
    (nth NodeT c (addW IntKind.i64 i 1)).snd.snd.snd.fst (need (AV.view (@List.nil Nat) TermT (nth NodeT c (addW IntKind.i64 i 1)).snd.snd.snd.snd.fst = AV.view (@List.nil
    Nat) TermT (nth NodeT c (addW IntKind.i64 i 1)).snd.snd.snd.snd.fst) (eqI (nth NodeT c (addW IntKind.i64 i 1)).snd.snd.snd.snd.snd (nth NodeT c (addW IntKind.i64
    i 1)).snd.snd.snd.snd.snd (need (AV.view (@List.nil Nat) NodeT c = AV.view (@List.nil Nat) NodeT c) (eqI i i (need (inI i (lenI c)) (need (AV.vptr (@List.nil Nat)
    (AV.int IntKind.i64 (nth NodeT c i).fst :: AV.int IntKind.i64 (nth NodeT c i).snd.fst :: AV.int IntKind.i64 (nth NodeT c i).snd.snd.fst :: AV.int IntKind.i64 (nth
    NodeT c i).snd.snd.snd.fst :: AV.view (@List.nil Nat) TermT (nth NodeT c i).snd.snd.snd.snd.fst :: AV.int IntKind.i64 (nth NodeT c i).snd.snd.snd.snd.snd :: @List.nil
    AV) = AV.vptr (@List.nil Nat) (AV.int IntKind.i64 (nth NodeT c i).fst :: AV.int IntKind.i64 (nth NodeT c i).snd.fst :: AV.int IntKind.i64 (nth NodeT c i).snd.snd.fst
    :: AV.int IntKind.i64 (nth NodeT c i).snd.snd.snd.fst :: AV.view (@List.nil Nat) TermT (nth NodeT c i).snd.snd.snd.snd.fst :: AV.int IntKind.i64 (nth NodeT c i).snd.snd.snd.snd.snd
    :: @List.nil AV)) (eqI (nth NodeT c i).fst (nth NodeT c i).fst (eqI (nth NodeT c i).snd.fst (nth NodeT c i).snd.fst (eqI (nth NodeT c i).snd.snd.fst (nth NodeT c
    i).snd.snd.fst (eqI (nth NodeT c i).snd.snd.snd.fst (nth NodeT c i).snd.snd.snd.fst (need (AV.view (@List.nil Nat) TermT (nth NodeT c i).snd.snd.snd.snd.fst = AV.view
    (@List.nil Nat) TermT (nth NodeT c i).snd.snd.snd.snd.fst) (eqI (nth NodeT c i).snd.snd.snd.snd.snd (nth NodeT c i).snd.snd.snd.snd.snd (need (AV.view (@List.nil
    Nat) NodeT c = AV.view (@List.nil Nat) NodeT c) (eqI i i (eqI (addW IntKind.i64 i 1) (addW IntKind.i64 i 1) (need (inI (addW IntKind.i64 i 1) (lenI c)) (need (AV.vptr
    (@List.nil Nat) (AV.int IntKind.i64 (nth NodeT c (addW IntKind.i64 i 1)).fst :: AV.int IntKind.i64 (nth NodeT c (addW IntKind.i64 i 1)).snd.fst :: AV.int IntKind.i64
    (nth NodeT c (addW IntKind.i64 i 1)).snd.snd.fst :: AV.int IntKind.i64 (nth NodeT c (addW IntKind.i64 i 1)).snd.snd.snd.fst :: AV.view (@List.nil Nat) TermT (nth
    NodeT c (addW IntKind.i64 i 1)).snd.snd.snd.snd.fst :: AV.int IntKind.i64 (nth NodeT c (addW IntKind.i64 i 1)).snd.snd.snd.snd.snd :: @List.nil AV) = AV.vptr (@List.nil
    Nat) (AV.int IntKind.i64 (nth NodeT c (addW IntKind.i64 i 1)).fst :: AV.int IntKind.i64 (nth NodeT c (addW IntKind.i64 i 1)).snd.fst :: AV.int IntKind.i64 (nth NodeT
    c (addW IntKind.i64 i 1)).snd.snd.fst :: AV.int IntKind.i64 (nth NodeT c (addW IntKind.i64 i 1)).snd.snd.snd.fst :: AV.view (@List.nil Nat) TermT (nth NodeT c (addW
    IntKind.i64 i 1)).snd.snd.snd.snd.fst :: AV.int IntKind.i64 (nth NodeT c (addW IntKind.i64 i 1)).snd.snd.snd.snd.snd :: @List.nil AV)) (eqI (nth NodeT c (addW IntKind.i64
    i 1)).fst (nth NodeT c (addW IntKind.i64 i 1)).fst (eqI (nth NodeT c (addW IntKind.i64 i 1)).snd.fst (nth NodeT c (addW IntKind.i64 i 1)).snd.fst (eqI (nth NodeT
    c (addW IntKind.i64 i 1)).snd.snd.fst (nth NodeT c (addW IntKind.i64 i 1)).snd.snd.fst (eqI (nth NodeT c (addW IntKind.i64 i 1)).snd.snd.snd.fst (nth NodeT c (addW
    IntKind.i64 i 1)).snd.snd.snd.fst (need (AV.view (@List.nil Nat) TermT (nth NodeT c (addW IntKind.i64 i 1)).snd.snd.snd.snd.fst = AV.view (@List.nil Nat) TermT (nth
    NodeT c (addW IntKind.i64 i 1)).snd.snd.snd.snd.fst) (eqI (nth NodeT c (addW IntKind.i64 i 1)).snd.snd.snd.snd.snd (nth NodeT c (addW IntKind.i64 i 1)).snd.snd.snd.snd.snd
    (need (AV.view (@List.nil Nat) NodeT c = AV.view (@List.nil Nat) NodeT c) (eqI i i (eqI (addW IntKind.i64 i 1) (addW IntKind.i64 i 1) (need (inI (addW IntKind.i64
    i 1) (lenI c)) (need (AV.vptr (@List.nil Nat) (AV.int IntKind.i64 (nth NodeT c (addW IntKind.i64 i 1)).fst :: AV.int IntKind.i64 (nth NodeT c (addW IntKind.i64 i
    1)).snd.fst :: AV.int IntKind.i64 (nth NodeT c (addW IntKind.i64 i 1)).snd.snd.fst :: AV.int IntKind.i64 (nth NodeT c (addW IntKind.i64 i 1)).snd.snd.snd.fst ::
    AV.view (@List.nil Nat) TermT (nth NodeT c (addW IntKind.i64 i 1)).snd.snd.snd.snd.fst :: AV.int IntKind.i64 (nth NodeT c (addW IntKind.i64 i 1)).snd.snd.snd.snd.snd
    :: @List.nil AV) = AV.vptr (@List.nil Nat) (AV.int IntKind.i64 (nth NodeT c (addW IntKind.i64 i 1)).fst :: AV.int IntKind.i64 (nth NodeT c (addW IntKind.i64 i 1)).snd.fst
    :: AV.int IntKind.i64 (nth NodeT c (addW IntKind.i64 i 1)).snd.snd.fst :: AV.int IntKind.i64 (nth NodeT c (addW IntKind.i64 i 1)).snd.snd.snd.fst :: AV.view (@List.nil
    Nat) TermT (nth NodeT c (addW IntKind.i64 i 1)).snd.snd.snd.snd.fst :: AV.int IntKind.i64 (nth NodeT c (addW IntKind.i64 i 1)).snd.snd.snd.snd.snd :: @List.nil AV))
    (eqI (nth NodeT c (addW IntKind.i64 i 1)).fst (nth NodeT c (addW IntKind.i64 i 1)).fst (eqI (nth NodeT c (addW IntKind.i64 i 1)).snd.fst (nth NodeT c (addW IntKind.i64
    i 1)).snd.fst (eqI (nth NodeT c (addW IntKind.i64 i 1)).snd.snd.fst (nth NodeT c (addW IntKind.i64 i 1)).snd.snd.fst (eqI (nth NodeT c (addW IntKind.i64 i 1)).snd.snd.snd.fst
    (nth NodeT c (addW IntKind.i64 i 1)).snd.snd.snd.fst (need (AV.view (@List.nil Nat) TermT (nth NodeT c (addW IntKind.i64 i 1)).snd.snd.snd.snd.fst = AV.view (@List.nil
    Nat) TermT (nth NodeT c (addW IntKind.i64 i 1)).snd.snd.snd.snd.fst) (eqI (nth NodeT c (addW IntKind.i64 i 1)).snd.snd.snd.snd.snd (nth NodeT c (addW IntKind.i64
    i 1)).snd.snd.snd.snd.snd (ifB (selB (selB (selB (eqB (nth NodeT c i).fst 3) (selB (selB (eqB (nth NodeT c (addW IntKind.i64 i 1)).fst 3) true (eqB (nth NodeT c
    (addW IntKind.i64 i 1)).fst 0)) true (eqB (nth NodeT c (addW IntKind.i64 i 1)).fst 1)) false) true (selB (eqB (nth NodeT c i).fst 5) (selB (selB (eqB (nth NodeT
    c (addW IntKind.i64 i 1)).fst 5) true (eqB (nth NodeT c (addW IntKind.i64 i 1)).fst 0)) true (eqB (nth NodeT c (addW IntKind.i64 i 1)).fst 1)) false)) true (selB
    (eqB (nth NodeT c i).fst 7) (eqB (nth NodeT c (addW IntKind.i64 i 1)).fst 1) false)) (eqL false false (eqD c c (eqI i i (RR (c, i, false))))) (eqD c c (eqI (addW
    IntKind.i64 i 1) (addW IntKind.i64 i 1) (Inv (c, addW IntKind.i64 i 1, false) ∧ meas (c, addW IntKind.i64 i 1, false) < nn)))))))))))))))))))))))))))))))))))))))))))))))))))))))))
    (need (AV.view (@List.nil Nat) NodeT c = AV.view (@List.nil Nat) NodeT c) (eqI i i (need (inI i (lenI c)) (need (AV.vptr (@List.nil Nat) (AV.int IntKind.i64 (nth
    NodeT c i).fst :: AV.int IntKind.i64 (nth NodeT c i).snd.fst :: AV.int IntKind.i64 (nth NodeT c i).snd.snd.fst :: AV.int IntKind.i64 (nth NodeT c i).snd.snd.snd.fst
    :: AV.view (@List.nil Nat) TermT (nth NodeT c i).snd.snd.snd.snd.fst :: AV.int IntKind.i64 (nth NodeT c i).snd.snd.snd.snd.snd :: @List.nil AV) = AV.vptr (@List.nil
    Nat) (AV.int IntKind.i64 (nth NodeT c i).fst :: AV.int IntKind.i64 (nth NodeT c i).snd.fst :: AV.int IntKind.i64 (nth NodeT c i).snd.snd.fst :: AV.int IntKind.i64
    (nth NodeT c i).snd.snd.snd.fst :: AV.view (@List.nil Nat) TermT (nth NodeT c i).snd.snd.snd.snd.fst :: AV.int IntKind.i64 (nth NodeT c i).snd.snd.snd.snd.snd ::
    @List.nil AV)) (eqI (nth NodeT c i).fst (nth NodeT c i).fst (eqI (nth NodeT c i).snd.fst (nth NodeT c i).snd.fst (eqI (nth NodeT c i).snd.snd.fst (nth NodeT c i).snd.snd.fst
    (eqI (nth NodeT c i).snd.snd.snd.fst (nth NodeT c i).snd.snd.snd.fst (need (AV.view (@List.nil Nat) TermT (nth NodeT c i).snd.snd.snd.snd.fst = AV.view (@List.nil
    Nat) TermT (nth NodeT c i).snd.snd.snd.snd.fst) (eqI (nth NodeT c i).snd.snd.snd.snd.snd (nth NodeT c i).snd.snd.snd.snd.snd (need (AV.view (@List.nil Nat) NodeT
    c = AV.view (@List.nil Nat) NodeT c) (eqI i i (eqI (addW IntKind.i64 i 1) (addW IntKind.i64 i 1) (need (inI (addW IntKind.i64 i 1) (lenI c)) (need (AV.vptr (@List.nil
    Nat) (AV.int IntKind.i64 (nth NodeT c (addW IntKind.i64 i 1)).fst :: AV.int IntKind.i64 (nth NodeT c (addW IntKind.i64 i 1)).snd.fst :: AV.int IntKind.i64 (nth NodeT
    c (addW IntKind.i64 i 1)).snd.snd.fst :: AV.int IntKind.i64 (nth NodeT c (addW IntKind.i64 i 1)).snd.snd.snd.fst :: AV.view (@List.nil Nat) TermT (nth NodeT c (addW
    IntKind.i64 i 1)).snd.snd.snd.snd.fst :: AV.int IntKind.i64 (nth NodeT c (addW IntKind.i64 i 1)).snd.snd.snd.snd.snd :: @List.nil AV) = AV.vptr (@List.nil Nat) (AV.int
    IntKind.i64 (nth NodeT c (addW IntKind.i64 i 1)).fst :: AV.int IntKind.i64 (nth NodeT c (addW IntKind.i64 i 1)).snd.fst :: AV.int IntKind.i64 (nth NodeT c (addW
    IntKind.i64 i 1)).snd.snd.fst :: AV.int IntKind.i64 (nth NodeT c (addW IntKind.i64 i 1)).snd.snd.snd.fst :: AV.view (@List.nil Nat) TermT (nth NodeT c (addW IntKind.i64
    i 1)).snd.snd.snd.snd.fst :: AV.int IntKind.i64 (nth NodeT c (addW IntKind.i64 i 1)).snd.snd.snd.snd.snd :: @List.nil AV)) (eqI (nth NodeT c (addW IntKind.i64 i
    1)).fst (nth NodeT c (addW IntKind.i64 i 1)).fst (eqI (nth NodeT c (addW IntKind.i64 i 1)).snd.fst (nth NodeT c (addW IntKind.i64 i 1)).snd.fst (eqI (nth NodeT c
    (addW IntKind.i64 i 1)).snd.snd.fst (nth NodeT c (addW IntKind.i64 i 1)).snd.snd.fst (eqI (nth NodeT c (addW IntKind.i64 i 1)).snd.snd.snd.fst (nth NodeT c (addW
    IntKind.i64 i 1)).snd.snd.snd.fst (need (AV.view (@List.nil Nat) TermT (nth NodeT c (addW IntKind.i64 i 1)).snd.snd.snd.snd.fst = AV.view (@List.nil Nat) TermT (nth
    NodeT c (addW IntKind.i64 i 1)).snd.snd.snd.snd.fst) (eqI (nth NodeT c (addW IntKind.i64 i 1)).snd.snd.snd.snd.snd (nth NodeT c (addW IntKind.i64 i 1)).snd.snd.snd.snd.snd
    (need (AV.view (@List.nil Nat) NodeT c = AV.view (@List.nil Nat) NodeT c) (eqI i i (need (inI i (lenI c)) (need (AV.vptr (@List.nil Nat) (AV.int IntKind.i64 (nth
    NodeT c i).fst :: AV.int IntKind.i64 (nth NodeT c i).snd.fst :: AV.int IntKind.i64 (nth NodeT c i).snd.snd.fst :: AV.int IntKind.i64 (nth NodeT c i).snd.snd.snd.fst
    :: AV.view (@List.nil Nat) TermT (nth NodeT c i).snd.snd.snd.snd.fst :: AV.int IntKind.i64 (nth NodeT c i).snd.snd.snd.snd.snd :: @List.nil AV) = AV.vptr (@List.nil
    Nat) (AV.int IntKind.i64 (nth NodeT c i).fst :: AV.int IntKind.i64 (nth NodeT c i).snd.fst :: AV.int IntKind.i64 (nth NodeT c i).snd.snd.fst :: AV.int IntKind.i64
    (nth NodeT c i).snd.snd.snd.fst :: AV.view (@List.nil Nat) TermT (nth NodeT c i).snd.snd.snd.snd.fst :: AV.int IntKind.i64 (nth NodeT c i).snd.snd.snd.snd.snd ::
    @List.nil AV)) (eqI (nth NodeT c i).fst (nth NodeT c i).fst (eqI (nth NodeT c i).snd.fst (nth NodeT c i).snd.fst (eqI (nth NodeT c i).snd.snd.fst (nth NodeT c i).snd.snd.fst
    (eqI (nth NodeT c i).snd.snd.snd.fst (nth NodeT c i).snd.snd.snd.fst (need (AV.view (@List.nil Nat) TermT (nth NodeT c i).snd.snd.snd.snd.fst = AV.view (@List.nil
    Nat) TermT (nth NodeT c i).snd.snd.snd.snd.fst) (eqI (nth NodeT c i).snd.snd.snd.snd.snd (nth NodeT c i).snd.snd.snd.snd.snd (need (AV.view (@List.nil Nat) NodeT
    c = AV.view (@List.nil Nat) NodeT c) (eqI i i (eqI (addW IntKind.i64 i 1) (addW IntKind.i64 i 1) (need (inI (addW IntKind.i64 i 1) (lenI c)) (need (AV.vptr (@List.nil
    Nat) (AV.int IntKind.i64 (nth NodeT c (addW IntKind.i64 i 1)).fst :: AV.int IntKind.i64 (nth NodeT c (addW IntKind.i64 i 1)).snd.fst :: AV.int IntKind.i64 (nth NodeT
    c (addW IntKind.i64 i 1)).snd.snd.fst :: AV.int IntKind.i64 (nth NodeT c (addW IntKind.i64 i 1)).snd.snd.snd.fst :: AV.view (@List.nil Nat) TermT (nth NodeT c (addW
    IntKind.i64 i 1)).snd.snd.snd.snd.fst :: AV.int IntKind.i64 (nth NodeT c (addW IntKind.i64 i 1)).snd.snd.snd.snd.snd :: @List.nil AV) = AV.vptr (@List.nil Nat) (AV.int
    IntKind.i64 (nth NodeT c (addW IntKind.i64 i 1)).fst :: AV.int IntKind.i64 (nth NodeT c (addW IntKind.i64 i 1)).snd.fst :: AV.int IntKind.i64 (nth NodeT c (addW
    IntKind.i64 i 1)).snd.snd.fst :: AV.int IntKind.i64 (nth NodeT c (addW IntKind.i64 i 1)).snd.snd.snd.fst :: AV.view (@List.nil Nat) TermT (nth NodeT c (addW IntKind.i64
    i 1)).snd.snd.snd.snd.fst :: AV.int IntKind.i64 (nth NodeT c (addW IntKind.i64 i 1)).snd.snd.snd.snd.snd :: @List.nil AV)) (eqI (nth NodeT c (addW IntKind.i64 i
    1)).fst (nth NodeT c (addW IntKind.i64 i 1)).fst (eqI (nth NodeT c (addW IntKind.i64 i 1)).snd.fst (nth NodeT c (addW IntKind.i64 i 1)).snd.fst (eqI (nth NodeT c
    (addW IntKind.i64 i 1)).snd.snd.fst (nth NodeT c (addW IntKind.i64 i 1)).snd.snd.fst (eqI (nth NodeT c (addW IntKind.i64 i 1)).snd.snd.snd.fst (nth NodeT c (addW
    IntKind.i64 i 1)).snd.snd.snd.fst (need (AV.view (@List.nil Nat) TermT (nth NodeT c (addW IntKind.i64 i 1)).snd.snd.snd.snd.fst = AV.view (@List.nil Nat) TermT (nth
    NodeT c (addW IntKind.i64 i 1)).snd.snd.snd.snd.fst) (eqI (nth NodeT c (addW IntKind.i64 i 1)).snd.snd.snd.snd.snd (nth NodeT c (addW IntKind.i64 i 1)).snd.snd.snd.snd.snd
    (need (AV.view (@List.nil Nat) NodeT c = AV.view (@List.nil Nat) NodeT c) (eqI i i (eqI (addW IntKind.i64 i 1) (addW IntKind.i64 i 1) (need (inI (addW IntKind.i64
    i 1) (lenI c)) (need (AV.vptr (@List.nil Nat) (AV.int IntKind.i64 (nth NodeT c (addW IntKind.i64 i 1)).fst :: AV.int IntKind.i64 (nth NodeT c (addW IntKind.i64 i
    1)).snd.fst :: AV.int IntKind.i64 (nth NodeT c (addW IntKind.i64 i 1)).snd.snd.fst :: AV.int IntKind.i64 (nth NodeT c (addW IntKind.i64 i 1)).snd.snd.snd.fst ::
    AV.view (@List.nil Nat) TermT (nth NodeT c (addW IntKind.i64 i 1)).snd.snd.snd.snd.fst :: AV.int IntKind.i64 (nth NodeT c (addW IntKind.i64 i 1)).snd.snd.snd.snd.snd
    :: @List.nil AV) = AV.vptr (@List.nil Nat) (AV.int IntKind.i64 (nth NodeT c (addW IntKind.i64 i 1)).fst :: AV.int IntKind.i64 (nth NodeT c (addW IntKind.i64 i 1)).snd.fst
    :: AV.int IntKind.i64 (nth NodeT c (addW IntKind.i64 i 1)).snd.snd.fst :: AV.int IntKind.i64 (nth NodeT c (addW IntKind.i64 i 1)).snd.snd.snd.fst :: AV.view (@List.nil
    Nat) TermT (nth NodeT c (addW IntKind.i64 i 1)).snd.snd.snd.snd.fst :: AV.int IntKind.i64 (nth NodeT c (addW IntKind.i64 i 1)).snd.snd.snd.snd.snd :: @List.nil AV))
    (eqI (nth NodeT c (addW IntKind.i64 i 1)).fst (nth NodeT c (addW IntKind.i64 i 1)).fst (eqI (nth NodeT c (addW IntKind.i64 i 1)).snd.fst (nth NodeT c (addW IntKind.i64
    i 1)).snd.fst (eqI (nth NodeT c (addW IntKind.i64 i 1)).snd.snd.fst (nth NodeT c (addW IntKind.i64 i 1)).snd.snd.fst (eqI (nth NodeT c (addW IntKind.i64 i 1)).snd.snd.snd.fst
    (nth NodeT c (addW IntKind.i64 i 1)).snd.snd.snd.fst (need (AV.view (@List.nil Nat) TermT (nth NodeT c (addW IntKind.i64 i 1)).snd.snd.snd.snd.fst = AV.view (@List.nil
    Nat) TermT (nth NodeT c (addW IntKind.i64 i 1)).snd.snd.snd.snd.fst) (eqI (nth NodeT c (addW IntKind.i64 i 1)).snd.snd.snd.snd.snd (nth NodeT c (addW IntKind.i64
    i 1)).snd.snd.snd.snd.snd (ifB (selB (selB (selB (eqB (nth NodeT c i).fst 3) (selB (selB (eqB (nth NodeT c (addW IntKind.i64 i 1)).fst 3) true (eqB (nth NodeT c
    (addW IntKind.i64 i 1)).fst 0)) true (eqB (nth NodeT c (addW IntKind.i64 i 1)).fst 1)) false) true (selB (eqB (nth NodeT c i).fst 5) (selB (selB (eqB (nth NodeT
    c (addW IntKind.i64 i 1)).fst 5) true (eqB (nth NodeT c (addW IntKind.i64 i 1)).fst 0)) true (eqB (nth NodeT c (addW IntKind.i64 i 1)).fst 1)) false)) true (selB
    (eqB (nth NodeT c i).fst 7) (eqB (nth NodeT c (addW IntKind.i64 i 1)).fst 1) false)) (eqL false false (eqD c c (eqI i i (RR (c, i, false))))) (eqD c c (eqI (addW
    IntKind.i64 i 1) (addW IntKind.i64 i 1) (Inv (c, addW IntKind.i64 i 1, false) ∧ meas (c, addW IntKind.i64 i 1, false) < nn)))))))))))))))))))))))))))))))))))))))))))))))))))))))))))))))))))))))))))))))))
    (eqD c c (eqI i i (EE0 (c, i, false))))) := by kernel_rfl
theorem body_isL_ok : ∀ x y, Pre_isL x → Inv_isL x y → wfS (sh_isL y) → Hd (awp tab fs_alive (acall tab fs_alive specs_copiedS fns 100 20) [] 100 (loopAt Try.f5 9) (bodyN sh_isL sx_isL nx_isL (Inv_isL x) (M_isL x) (M_isL x y) (D_isL x)) (sh_isL y)) := by
  rintro ⟨c0, i0, r0⟩ ⟨c, i, r⟩ hp hI hw
  obtain ⟨rfl, hI⟩ := hI
  have hw_c := wfL_view hw 3 rfl
  have hw_i := wfL_int hw 5 rfl
  have hp : i0 = 0 ∧ adjP c ∧ lenI c ≤ 1000000 := hp
  unfold D_isL
  rw [body_isL]
  refine ⟨?_⟩
  have hInv : ∀ (i : Int) (r : Bool), (0 ≤ i ∧ i ≤ lenI c) → Inv_isL (c, i0, r0) (c, i, r) := fun _ _ h => ⟨rfl, h⟩
  generalize hIe : Inv_isL (c, i0, r0) = Inv at hInv ⊢
  have hMe : ∀ (i : Int) (r : Bool), M_isL (c, i0, r0) (c, i, r) = (lenI c - i).toNat := fun _ _ => rfl
  generalize M_isL (c, i0, r0) = Me at hMe ⊢
  have hE0 : ∀ (i : Int) (r : Bool), (True) → E0_isL (c, i0, r0) (c, i, r) := fun _ _ h => ⟨rfl, h⟩
  generalize E0_isL (c, i0, r0) = EE0 at hE0 ⊢
  have hR : ∀ (i : Int) (r : Bool), (r = false ∧ False) → R_isL (c, i0, r0) (c, i, r) := fun _ _ h => ⟨rfl, h⟩
  generalize R_isL (c, i0, r0) = RR at hR ⊢
  obtain ⟨p1, p2, p3⟩ := hp
  obtain ⟨h0, h1⟩ := hI
  have ei : addW .i64 i 1 = i + 1 := addW64 (by omega) (by omega)
  rw [ei]
  by_cases hlt : i + 1 < lenI c
  · have hin : inI i (lenI c) := ⟨h0, by omega⟩
    have hin1 : inI (i + 1) (lenI c) := ⟨by omega, hlt⟩
    have hch : childOK (nth NodeT c i).1 (nth NodeT c (i + 1)).1 := by
      obtain ⟨k, rfl⟩ : ∃ k : Nat, i = (k : Int) := ⟨i.toNat, by omega⟩
      exact adj_nth (i := k) p2 (by unfold lenI at hlt; omega)
    obtain ⟨xo, xr, hx⟩ : ∃ (q1 : Int) (q2 : Int × Int × Int × List (den TermT) × Int), nth NodeT c i = (q1, q2) := ⟨_, _, rfl⟩
    obtain ⟨yo, yr, hy⟩ : ∃ (q1 : Int) (q2 : Int × Int × Int × List (den TermT) × Int), nth NodeT c (i + 1) = (q1, q2) := ⟨_, _, rfl⟩
    simp only [hx, hy] at hch ⊢
    simp only [ltB_t.2 hlt, hin, hin1]
    simp only [need_def, appL_def, ifB_def, impB_def, selB_f, selB_t, selI_def, selX_def, notB_def, andB_def, orB_def, beqB_def, ltB_def, leB_def, eqB_def, seqB_def, eqI_def, eqL_def, eqS_def, eqD_def, eqT_def, imp_def, inI_def, nzI_def, geZ_def, ret_bool, ret_int, Bool.and_eq_true, Bool.or_eq_true, Bool.not_eq_true', Bool.not_eq_false', decide_eq_true_eq, decide_eq_false_iff_not, Bool.and_eq_false_iff, Bool.or_eq_false_iff, Int.not_lt, Int.not_le, true_and, and_true, implies_true, Bool.false_eq_true, Bool.true_eq_false, false_implies, forall_const, reduceCtorEq, if_true, if_false, true_implies, false_and, and_false, false_or, or_false, true_or, or_true]
    have hb : ¬ ((xo = 3 ∧ ((yo = 3 ∨ yo = 0) ∨ yo = 1) ∨ xo = 5 ∧ ((yo = 5 ∨ yo = 0) ∨ yo = 1)) ∨ xo = 7 ∧ yo = 1) := by
      rintro ((⟨e, (h | h) | h⟩ | ⟨e, (h | h) | h⟩) | ⟨e, h⟩)
      · exact (hch.1 e).1 h
      · exact (hch.1 e).2.1 h
      · exact (hch.1 e).2.2 h
      · exact (hch.2.1 e).1 h
      · exact (hch.2.1 e).2.1 h
      · exact (hch.2.1 e).2.2 h
      · exact hch.2.2 e h
    have hgo : Inv (c, i + 1, false) ∧ Me (c, i + 1, false) < Me (c, i, r) := ⟨hInv _ _ ⟨by omega, by omega⟩, by simp only [hMe]; omega⟩
    exact ⟨⟨fun h => absurd h hb, fun _ => hgo⟩, fun h => absurd h hb, fun _ => hgo⟩
  · simp only [ltB_f.2 (Int.not_lt.1 hlt), need_def, appL_def, ifB_def, impB_def, selB_f, selB_t, selI_def, selX_def, notB_def, andB_def, orB_def, beqB_def, ltB_def, leB_def, eqB_def, seqB_def, eqI_def, eqL_def, eqS_def, eqD_def, eqT_def, imp_def, inI_def, nzI_def, geZ_def, ret_bool, ret_int, Bool.and_eq_true, Bool.or_eq_true, Bool.not_eq_true', Bool.not_eq_false', decide_eq_true_eq, decide_eq_false_iff_not, Bool.and_eq_false_iff, Bool.or_eq_false_iff, Int.not_lt, Int.not_le, true_and, and_true, implies_true, Bool.false_eq_true, Bool.true_eq_false, false_implies, forall_const, reduceCtorEq, if_true, if_false, true_implies, false_and, and_false, false_or, or_false, true_or, or_true]
    exact hE0 _ _ trivial
theorem summ_isL : SummOK Try.prog (loopAt Try.f5 9) S_isL :=
  summN_ok (L := []) (fuel := 100) tabOK fsOK_alive (mkCall fsOK_alive specsOK_copiedS fnsOK) (fun C => mkDraw fsOK_alive (mkCall fsOK_alive specsOK_copiedS fnsOK) C) loopsOK_nil Inv_isL M_isL
    (fun x hp hw => by
      obtain ⟨c, i, r⟩ := x
      have hp : i = 0 ∧ adjP c ∧ lenI c ≤ 1000000 := hp
      have hw_c := wfL_view hw 3 rfl
      have hw_i := wfL_int hw 5 rfl
      obtain ⟨rfl, _⟩ := hp; exact ⟨rfl, Int.le_refl _, lenI_nn _⟩)
    (body_isL_ok)
noncomputable def fns_LCoreIs : Fns := (5, Try.f5, [(9, S_isL)]) :: fns
theorem fn_LCoreIs : FnOK Try.prog 5 Try.f5 [(9, S_isL)] := fnOK_loops Try.func5 (fun vs w => Try.call5 vs w) (by kernel_rfl) fun k S h => by
  simp only [List.mem_cons, Prod.mk.injEq, List.not_mem_nil, or_false] at h
  obtain ⟨rfl, rfl⟩ := h
  exact summ_isL
theorem fns_LCoreIsOK : FnsOK Try.prog fns_LCoreIs := fnsOK_cons fn_LCoreIs fnsOK
theorem CoreIs_eq (n : List (den NodeT)) : acall tab fs_alive specs_copiedS fns_LCoreIs 100 20 5 [.view [] NodeT n] [] (fun o _ _ _ => o = .ret (.bool true)) =
  (ifB (notB (lightF n)) (AOut.ret (AV.bool true) = AOut.ret (AV.bool true)) (ifB (notB (eqB (normErr n) 0)) (AOut.ret (AV.bool (eqB (lenI (normOf n)) 0)) = AOut.ret
    (AV.bool true)) (need (smallL (normOf n)) (ifB (notB (isCoreF (normOf n))) (AOut.ret (AV.bool false) = AOut.ret (AV.bool true)) (eqD (normOf n) (normOf n) (eqI 0
    0 (((0 : Int) = 0 ∧ adjP (normOf n) ∧ lenI (normOf n) ≤ 1000000) ∧ ((∀ (y : X_isL), y.1 = normOf n ∧ True → AOut.ret (AV.bool true) = AOut.ret (AV.bool true)) ∧
    True) ∧ ∀ (y : X_isL), y.1 = normOf n ∧ y.2.2 = false ∧ False → AOut.ret (AV.bool y.2.2) = AOut.ret (AV.bool true)))))))) := by kernel_rfl
theorem CoreIs_call : CallOK Try.prog (acall tab fs_alive specs_copiedS fns_LCoreIs 100 20) := mkCall fsOK_alive specsOK_copiedS fns_LCoreIsOK
theorem CoreIs_go (n : List (den NodeT)) : LawEv (acall tab fs_alive specs_copiedS fns_LCoreIs 100 20) 5 [.view [] NodeT n] := by
  refine ⟨?_⟩
  rw [CoreIs_eq]
  have ha := light_tree (n := n)
  simp only [need_def, appL_def, ifB_def, impB_def, selB_f, selB_t, selI_def, selX_def, notB_def, andB_def, orB_def, beqB_def, ltB_def, leB_def, eqB_def, seqB_def, eqI_def, eqL_def, eqS_def, eqD_def, eqT_def, imp_def, inI_def, nzI_def, geZ_def, ret_bool, ret_int, Bool.and_eq_true, Bool.or_eq_true, Bool.not_eq_true', Bool.not_eq_false', decide_eq_true_eq, decide_eq_false_iff_not, Bool.and_eq_false_iff, Bool.or_eq_false_iff, Int.not_lt, Int.not_le, true_and, and_true, implies_true, Bool.false_eq_true, Bool.true_eq_false, false_implies, forall_const, reduceCtorEq, if_true, if_false, true_implies, false_and, and_false, false_or, or_false, true_or, or_true]
  intro hl
  have hlen := light_len hl
  refine ⟨fun h => ?_, fun h => ?_⟩
  · have : normOf n = [] := by
      unfold normOf
      rw [if_neg]
      rintro ⟨g1, g2, g3⟩
      apply h
      unfold normErr
      rw [if_neg (by simp [g1]), if_neg (by simp [g2]), if_neg (by omega)]
    rw [this]; rfl
  · have hv : validF n = true ∧ rangesF n = true ∧ lenI (normF n) ≤ 600 := by
      unfold normErr at h
      by_cases g1 : validF n = false
      · rw [if_pos g1] at h; cases h
      · rw [if_neg g1] at h
        by_cases g2 : rangesF n = false
        · rw [if_pos g2] at h; cases h
        · rw [if_neg g2] at h
          by_cases g3 : 600 < lenI (normF n)
          · rw [if_pos g3] at h; cases h
          · exact ⟨by simpa using g1, by simpa using g2, by omega⟩
    have e : normOf n = normF n := by unfold normOf; rw [if_pos hv]
    have hr : ∀ x ∈ n, rightB x := fun x hx => by
      have h1 := hv.1
      simp only [validF, Bool.and_eq_true, decide_eq_true_eq, Bool.not_eq_true', List.any_eq_false] at h1
      have := h1.1.1.2 x hx
      unfold rightB
      simpa [nrightF, notB] using this
    have hc := coreOK_norm n.length n (Nat.le_refl _) (okT_valid hv.1) hr
    rw [e]
    refine ⟨by unfold smallL; omega, fun h1 => ?_, fun _ => ⟨(core_adj _ _ (Nat.le_refl _) hc).1, by omega⟩⟩
    rw [hc.1] at h1; cases h1
theorem CoreIs_ev : ∀ xs : DT [(.list (.prod (.int .i64) (.prod (.int .i64) (.prod (.int .i64) (.prod (.int .i64) (.prod (.list (.prod .str (.int .i64))) (.int .i64)))))))], wfs [(.list (.prod (.int .i64) (.prod (.int .i64) (.prod (.int .i64) (.prod (.int .i64) (.prod (.list (.prod .str (.int .i64))) (.int .i64)))))))] xs → LawEv (acall tab fs_alive specs_copiedS fns_LCoreIs 100 20) 5 (argsA tab #[22].toList [(.list (.prod (.int .i64) (.prod (.int .i64) (.prod (.int .i64) (.prod (.int .i64) (.prod (.list (.prod .str (.int .i64))) (.int .i64)))))))] xs) := by
  rintro ⟨n, ⟨⟩⟩ hw
  exact CoreIs_go n



theorem CoreIs_own : ownKnob Try.prog.godebug = none := by kernel_rfl
theorem CoreIs_kids : Kids Try.prog (· < Try.prog.types.size) := kids_rows (by kernel_rfl) (by kernel_rfl)
theorem CoreIs_full : ∀ t e, t < Try.prog.types.size → Try.prog.underlying t = some (.slice e) → 0 < Try.prog.cellsOf e := slices_full_of _ (by kernel_rfl)

theorem CoreIs_lifted (os : Os) (started : os.Started) (H : Type) (enc : TypeId × Value → H) :
    ReturnsInHanded {} Try.checked os 5 .any (Rows.coreIsSpec.pre6 enc Try.prog Try.f5 Rows.coreIsRow.domain false) (Rows.coreIsSpec.post enc Try.prog Try.f5 false true false false) := by
  refine returnsInHanded_of_change_shaped (C := Try.checked) CoreIs_own started (by kernel_rfl) Try.func5
    (ChangeSpec.witness6 (enc := enc) (C := Try.checked) false ⟨#[], #[(Value.slice none 0 0)], []⟩ 8 (by kernel_rfl) (by kernel_rfl) (by kernel_rfl) (by kernel_rfl)) ?_
  intro W base args ds gs before hval hW _ hwt _ _
  refine law_contract' (P := Try.prog) (fn := Try.f5) (s := Rows.coreIsSpec) (tb := 4) (Ts := [(.list (.prod (.int .i64) (.prod (.int .i64) (.prod (.int .i64) (.prod (.int .i64) (.prod (.list (.prod .str (.int .i64))) (.int .i64)))))))]) (call := (acall tab fs_alive specs_copiedS fns_LCoreIs 100 20)) (f := 5) tabOK CoreIs_call CoreIs_kids CoreIs_full Try.params5 (by decide +kernel) rfl rfl Try.underlying4 ?_ (by kernel_rfl) CoreIs_ev hval hW hwt
  intro ds hl
  match ds, hl with
  | [d0], _ => rfl

theorem CoreIs_holds : Rows.CoreIsSaid :=
  OpenClaim.holds_of_wide 5 Try.f5 rfl rfl rfl rfl rfl rfl rfl ⟨rfl, rfl, rfl, rfl, rfl⟩ rfl rfl rfl rfl rfl (by kernel_rfl) Try.func5 (by kernel_rfl)
    (of_decide_eq_true (by kernel_rfl)) (by unfold Func.isWrapper; first | (rw [if_pos (by decide +kernel)]; kernel_rfl) | (rw [if_neg (by decide +kernel)]; exact ⟨rfl, rfl⟩))
    (fun os started H enc _ => CoreIs_lifted os started H enc)

end Go.Proofs.Ytmnifphhdeppnaa
