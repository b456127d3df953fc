/- Yticnfdlfhakneaa: the law PairMany returns true for every input, and its arguments read as they did: no condition. -/
import Derived.Test.YticnfdlfhakneaaRows
import Derived.Test.YticnfdlfhakneaaSxV
import Derived.Test.YticnfdlfhakneaaSmPairB
import Derived.HandedShaped
namespace Go.Proofs.Yticnfdlfhakneaa
open Go.ChangeShapes Go.WideShapes Go.ChangeAt Go.RowKit Sx
set_option maxRecDepth 100000
set_option linter.unusedVariables false
set_option linter.unusedSimpArgs false
set_option maxHeartbeats 4000000

def upF (i h al : Int) (l : List (den SeenT)) : Bool := l.any fun x => decide (senseF i h x.1 x.2.1 al = 1)
def dnF (i h al : Int) (l : List (den SeenT)) : Bool := l.any fun x => decide (senseF i h x.1 x.2.1 al = 2)
abbrev X_many := List (den SeenT) × Int × Bool × Bool × Int × Int × Int × Int × Bool
def sh_many : X_many → St := fun x => match x with | (l, al, up, dn, i, oi, oh, oa, r) => ⟨setL (rep .bad 124) [(1, .view [] SeenT l), (2, .int .i64 al), (7, .bool up), (8, .bool dn), (9, .int .i64 i), (3, .ptr 0 0)], [.var [.int .i64 oi, .int .i64 oh, .int .i64 oa]], [], []⟩
def shr_many : X_many → St := fun x => match x with | (l, al, up, dn, i, oi, oh, oa, r) => ⟨setL (rep .bad 124) [(1, .view [] SeenT l), (2, .int .i64 al), (7, .bool up), (8, .bool dn), (9, .int .i64 i), (6, .bool r), (3, .ptr 0 0)], [.var [.int .i64 oi, .int .i64 oh, .int .i64 oa]], [], []⟩
def sx_many : AExit → X_many → St := fun e => match e with | .ret => shr_many | _ => sh_many
def nx_many (σ : St) : X_many := (gV SeenT σ 1, gI σ 2, gB σ 7, gB σ 8, gI σ 9, cI σ 0 0, cI σ 0 1, cI σ 0 2, gB σ 6)
def Pre_many : X_many → Prop := fun x => match x with | (l, al, up, dn, i, oi, oh, oa, r) => i = 0 ∧ up = false ∧ dn = false ∧ lenI l ≤ 60 ∧ (1 ≤ al ∧ al ≤ 1099511627776) ∧ (-1099511627776 ≤ oh ∧ oh ≤ 1099511627776)
def E0_many : X_many → X_many → Prop := fun x y => match x, y with | (l0, al0, up0, dn0, i0, oi0, oh0, oa0, r0), (l, al, up, dn, i, oi, oh, oa, r) => (l = l0 ∧ al = al0 ∧ oi = oi0 ∧ oh = oh0 ∧ oa = oa0) ∧ (up = upF oi oh al l ∧ dn = dnF oi oh al l)
def R_many : X_many → X_many → Prop := fun x y => match x, y with | (l0, al0, up0, dn0, i0, oi0, oh0, oa0, r0), (l, al, up, dn, i, oi, oh, oa, r) => (l = l0 ∧ al = al0 ∧ oi = oi0 ∧ oh = oh0 ∧ oa = oa0) ∧ (r = true)
def D_many : X_many → LEnds X_many := fun x => ⟨[(0, E0_many x)], R_many x⟩
noncomputable def S_many : Summ := summN sh_many sx_many nx_many Pre_many D_many
def Inv_many : X_many → X_many → Prop := fun x y => match x, y with | (l0, al0, up0, dn0, i0, oi0, oh0, oa0, r0), (l, al, up, dn, i, oi, oh, oa, r) => (l = l0 ∧ al = al0 ∧ oi = oi0 ∧ oh = oh0 ∧ oa = oa0) ∧ ((0 ≤ i ∧ i ≤ lenI l) ∧ up = upF oi oh al (l.take i.toNat) ∧ dn = dnF oi oh al (l.take i.toNat))
def M_many : X_many → X_many → Nat := fun x y => match x, y with | (l0, al0, up0, dn0, i0, oi0, oh0, oa0, r0), (l, al, up, dn, i, oi, oh, oa, r) => (lenI l - i).toNat
theorem body_many (Inv : X_many → Prop) (meas : X_many → Nat) (nn : Nat) (EE0 RR : X_many → Prop) (l : List (den SeenT)) (al : Int) (up : Bool) (dn : Bool) (i : Int) (oi : Int) (oh : Int) (oa : Int) (r : Bool) : awp tab fs_alive (acall tab fs_alive specs_size fns 100 20) [] 100 (loopAt Try.f6 5) (bodyN sh_many sx_many nx_many Inv meas nn ⟨[(0, EE0)], RR⟩) (sh_many (l, al, up, dn, i, oi, oh, oa, r)) =
  (ifB (ltB i (lenI l)) (need (inI i (lenI l)) (need (impB (notB (ltB 1099511627776 (nth SeenT l i).snd.fst)) (inI i (lenI l))) (ifB (selB (ltB 1099511627776 (nth SeenT
    l i).snd.fst) true (ltB (nth SeenT l i).snd.fst (-1099511627776))) (eqD l l (eqI al al (eqL true true (eqL up up (eqL dn dn (eqI i i (eqI oi oi (eqI oh oh (eqI oa
    oa (RR (l, al, up, dn, i, oi, oh, oa, true))))))))))) (need (inI i (lenI l)) (eqI oh oh (need (AV.view (@List.nil Nat) SeenT l = AV.view (@List.nil Nat) SeenT l)
    (eqI i i (need (inI i (lenI l)) (need (AV.vptr (@List.nil Nat) (AV.int IntKind.i64 (nth SeenT l i).fst :: AV.int IntKind.i64 (nth SeenT l i).snd.fst :: AV.int IntKind.i64
    (nth SeenT l i).snd.snd :: @List.nil AV) = AV.vptr (@List.nil Nat) (AV.int IntKind.i64 (nth SeenT l i).fst :: AV.int IntKind.i64 (nth SeenT l i).snd.fst :: AV.int
    IntKind.i64 (nth SeenT l i).snd.snd :: @List.nil AV)) (need (AV.vptr (@List.nil Nat) (AV.int IntKind.i64 (nth SeenT l i).snd.fst :: AV.int IntKind.i64 (nth SeenT
    l i).snd.snd :: @List.nil AV) = AV.vptr (@List.nil Nat) (AV.int IntKind.i64 (nth SeenT l i).snd.fst :: AV.int IntKind.i64 (nth SeenT l i).snd.snd :: @List.nil AV))
    (eqI (nth SeenT l i).snd.fst (nth SeenT l i).snd.fst (eqI (subW IntKind.i64 oh (nth SeenT l i).snd.fst) (subW IntKind.i64 oh (nth SeenT l i).snd.fst) (ifB (leB al
    (subW IntKind.i64 oh (nth SeenT l i).snd.fst)) (need (eqT true true) (need (eqT true true) (eqI (subW IntKind.i64 oh (nth SeenT l i).snd.fst) (subW IntKind.i64 oh
    (nth SeenT l i).snd.fst) (eqI al al (eqL (leB al (subW IntKind.i64 oh (nth SeenT l i).snd.fst)) (leB al (subW IntKind.i64 oh (nth SeenT l i).snd.fst)) (eqL (leB
    al (subW IntKind.i64 oh (nth SeenT l i).snd.fst)) true (need (eqT true true) (eqL true true (eqL true true (need (eqT true true) (eqL true true (eqD l l (eqI al
    al (eqL up up (eqL dn dn (eqI (addW IntKind.i64 i 1) (addW IntKind.i64 i 1) (eqI oi oi (eqI oh oh (eqI oa oa (Inv (l, al, up, dn, addW IntKind.i64 i 1, oi, oh, oa,
    false) ∧ meas (l, al, up, dn, addW IntKind.i64 i 1, oi, oh, oa, false) < nn)))))))))))))))))))) (ifB (leB al (subW IntKind.i64 0 (subW IntKind.i64 oh (nth SeenT
    l i).snd.fst))) (need (eqT true true) (eqI (subW IntKind.i64 oh (nth SeenT l i).snd.fst) (subW IntKind.i64 oh (nth SeenT l i).snd.fst) (eqI al al (eqL (leB al (subW
    IntKind.i64 oh (nth SeenT l i).snd.fst)) (leB al (subW IntKind.i64 oh (nth SeenT l i).snd.fst)) (eqL (leB al (subW IntKind.i64 oh (nth SeenT l i).snd.fst)) false
    (eqI (subW IntKind.i64 oh (nth SeenT l i).snd.fst) (subW IntKind.i64 oh (nth SeenT l i).snd.fst) (eqI (subW IntKind.i64 0 (subW IntKind.i64 oh (nth SeenT l i).snd.fst))
    (subW IntKind.i64 0 (subW IntKind.i64 oh (nth SeenT l i).snd.fst)) (eqI al al (eqL (leB al (subW IntKind.i64 0 (subW IntKind.i64 oh (nth SeenT l i).snd.fst))) (leB
    al (subW IntKind.i64 0 (subW IntKind.i64 oh (nth SeenT l i).snd.fst))) (eqL (leB al (subW IntKind.i64 0 (subW IntKind.i64 oh (nth SeenT l i).snd.fst))) (leB al (subW
    IntKind.i64 0 (subW IntKind.i64 oh (nth SeenT l i).snd.fst))) (eqL (leB al (subW IntKind.i64 0 (subW IntKind.i64 oh (nth SeenT l i).snd.fst))) true (need (eqT true
    true) (eqL true true (eqD l l (eqI al al (eqL up up (eqL dn dn (eqI (addW IntKind.i64 i 1) (addW IntKind.i64 i 1) (eqI oi oi (eqI oh oh (eqI oa oa (Inv (l, al, up,
    dn, addW IntKind.i64 i 1, oi, oh, oa, false) ∧ meas (l, al, up, dn, addW IntKind.i64 i 1, oi, oh, oa, false) < nn)))))))))))))))))))))) (ifB (eqB (subW IntKind.i64
    oh (nth SeenT l i).snd.fst) 0) (need (inI i (lenI l)) (eqI (subW IntKind.i64 oh (nth SeenT l i).snd.fst) (subW IntKind.i64 oh (nth SeenT l i).snd.fst) (eqI al al
    (eqL (leB al (subW IntKind.i64 oh (nth SeenT l i).snd.fst)) (leB al (subW IntKind.i64 oh (nth SeenT l i).snd.fst)) (eqL (leB al (subW IntKind.i64 oh (nth SeenT l
    i).snd.fst)) false (eqI (subW IntKind.i64 oh (nth SeenT l i).snd.fst) (subW IntKind.i64 oh (nth SeenT l i).snd.fst) (eqI (subW IntKind.i64 0 (subW IntKind.i64 oh
    (nth SeenT l i).snd.fst)) (subW IntKind.i64 0 (subW IntKind.i64 oh (nth SeenT l i).snd.fst)) (eqI al al (eqL (leB al (subW IntKind.i64 0 (subW IntKind.i64 oh (nth
    SeenT l i).snd.fst))) (leB al (subW IntKind.i64 0 (subW IntKind.i64 oh (nth SeenT l i).snd.fst))) (eqL (leB al (subW IntKind.i64 0 (subW IntKind.i64 oh (nth SeenT
    l i).snd.fst))) (leB al (subW IntKind.i64 0 (subW IntKind.i64 oh (nth SeenT l i).snd.fst))) (eqL (leB al (subW IntKind.i64 0 (subW IntKind.i64 oh (nth SeenT l i).snd.fst)))
    false (eqI (subW IntKind.i64 oh (nth SeenT l i).snd.fst) (subW IntKind.i64 oh (nth SeenT l i).snd.fst) (eqL (eqB (subW IntKind.i64 oh (nth SeenT l i).snd.fst) 0)
    (eqB (subW IntKind.i64 oh (nth SeenT l i).snd.fst) 0) (eqL (eqB (subW IntKind.i64 oh (nth SeenT l i).snd.fst) 0) true (eqI oi oi (need (AV.view (@List.nil Nat) SeenT
    l = AV.view (@List.nil Nat) SeenT l) (eqI i i (need (inI i (lenI l)) (need (AV.vptr (@List.nil Nat) (AV.int IntKind.i64 (nth SeenT l i).fst :: AV.int IntKind.i64
    (nth SeenT l i).snd.fst :: AV.int IntKind.i64 (nth SeenT l i).snd.snd :: @List.nil AV) = AV.vptr (@List.nil Nat) (AV.int IntKind.i64 (nth SeenT l i).fst :: AV.int
    IntKind.i64 (nth SeenT l i).snd.fst :: AV.int IntKind.i64 (nth SeenT l i).snd.snd :: @List.nil AV)) (need (AV.vptr (@List.nil Nat) (AV.int IntKind.i64 (nth SeenT
    l i).fst :: AV.int IntKind.i64 (nth SeenT l i).snd.fst :: AV.int IntKind.i64 (nth SeenT l i).snd.snd :: @List.nil AV) = AV.vptr (@List.nil Nat) (AV.int IntKind.i64
    (nth SeenT l i).fst :: AV.int IntKind.i64 (nth SeenT l i).snd.fst :: AV.int IntKind.i64 (nth SeenT l i).snd.snd :: @List.nil AV)) (eqI (nth SeenT l i).fst (nth SeenT
    l i).fst (eqL (eqB oi (nth SeenT l i).fst) (eqB oi (nth SeenT l i).fst) (eqL (eqB oi (nth SeenT l i).fst) (eqB oi (nth SeenT l i).fst) (eqL (eqB oi (nth SeenT l
    i).fst) (eqB oi (nth SeenT l i).fst) (ifB (eqB oi (nth SeenT l i).fst) (eqD l l (eqI al al (eqL up up (eqL dn dn (eqI (addW IntKind.i64 i 1) (addW IntKind.i64 i
    1) (eqI oi oi (eqI oh oh (eqI oa oa (Inv (l, al, up, dn, addW IntKind.i64 i 1, oi, oh, oa, false) ∧ meas (l, al, up, dn, addW IntKind.i64 i 1, oi, oh, oa, false)
    < nn))))))))) (ifB (ltB 0 (subW IntKind.i64 oh (nth SeenT l i).snd.fst)) (need (eqT true true) (eqI (subW IntKind.i64 oh (nth SeenT l i).snd.fst) (subW IntKind.i64
    oh (nth SeenT l i).snd.fst) (eqL (ltB 0 (subW IntKind.i64 oh (nth SeenT l i).snd.fst)) (ltB 0 (subW IntKind.i64 oh (nth SeenT l i).snd.fst)) (eqL (ltB 0 (subW IntKind.i64
    oh (nth SeenT l i).snd.fst)) true (need (eqT true true) (eqL true true (eqD l l (eqI al al (eqL true true (eqL dn dn (eqI (addW IntKind.i64 i 1) (addW IntKind.i64
    i 1) (eqI oi oi (eqI oh oh (eqI oa oa (Inv (l, al, true, dn, addW IntKind.i64 i 1, oi, oh, oa, false) ∧ meas (l, al, true, dn, addW IntKind.i64 i 1, oi, oh, oa,
    false) < nn))))))))))))))) (ifB (eqB (subW IntKind.i64 oh (nth SeenT l i).snd.fst) 0) (need (inI i (lenI l)) (eqI (subW IntKind.i64 oh (nth SeenT l i).snd.fst) (subW
    IntKind.i64 oh (nth SeenT l i).snd.fst) (eqL (ltB 0 (subW IntKind.i64 oh (nth SeenT l i).snd.fst)) (ltB 0 (subW IntKind.i64 oh (nth SeenT l i).snd.fst)) (eqL (ltB
    0 (subW IntKind.i64 oh (nth SeenT l i).snd.fst)) false (eqI (subW IntKind.i64 oh (nth SeenT l i).snd.fst) (subW IntKind.i64 oh (nth SeenT l i).snd.fst) (eqL (eqB
    (subW IntKind.i64 oh (nth SeenT l i).snd.fst) 0) (eqB (subW IntKind.i64 oh (nth SeenT l i).snd.fst) 0) (eqL (eqB (subW IntKind.i64 oh (nth SeenT l i).snd.fst) 0)
    true (eqI oi oi (need (AV.view (@List.nil Nat) SeenT l = AV.view (@List.nil Nat) SeenT l) (eqI i i (need (inI i (lenI l)) (need (AV.vptr (@List.nil Nat) (AV.int
    IntKind.i64 (nth SeenT l i).fst :: AV.int IntKind.i64 (nth SeenT l i).snd.fst :: AV.int IntKind.i64 (nth SeenT l i).snd.snd :: @List.nil AV) = AV.vptr (@List.nil
    Nat) (AV.int IntKind.i64 (nth SeenT l i).fst :: AV.int IntKind.i64 (nth SeenT l i).snd.fst :: AV.int IntKind.i64 (nth SeenT l i).snd.snd :: @List.nil AV)) (need
    (AV.vptr (@List.nil Nat) (AV.int IntKind.i64 (nth SeenT l i).fst :: AV.int IntKind.i64 (nth SeenT l i).snd.fst :: AV.int IntKind.i64 (nth SeenT l i).snd.snd :: @List.nil
    AV) = AV.vptr (@List.nil Nat) (AV.int IntKind.i64 (nth SeenT l i).fst :: AV.int IntKind.i64 (nth SeenT l i).snd.fst :: AV.int IntKind.i64 (nth SeenT l i).snd.snd
    :: @List.nil AV)) (eqI (nth SeenT l i).fst (nth SeenT l i).fst (eqL (ltB (nth SeenT l i).fst oi) (ltB (nth SeenT l i).fst oi) (eqL (ltB (nth SeenT l i).fst oi) (ltB
    (nth SeenT l i).fst oi) (eqL (ltB (nth SeenT l i).fst oi) (ltB (nth SeenT l i).fst oi) (eqD l l (eqI al al (eqL (selB (ltB (nth SeenT l i).fst oi) true up) (selB
    (ltB (nth SeenT l i).fst oi) true up) (eqL (selB (ltB (nth SeenT l i).fst oi) dn true) (selB (ltB (nth SeenT l i).fst oi) dn true) (eqI (addW IntKind.i64 i 1) (addW
    IntKind.i64 i 1) (eqI oi oi (eqI oh oh (eqI oa oa (Inv (l, al, selB (ltB (nth SeenT l i).fst oi) true up, selB (ltB (nth SeenT l i).fst oi) dn true, addW IntKind.i64
    i 1, oi, oh, oa, false) ∧ meas (l, al, selB (ltB (nth SeenT l i).fst oi) true up, selB (ltB (nth SeenT l i).fst oi) dn true, addW IntKind.i64 i 1, oi, oh, oa, false)
    < nn)))))))))))))))))))))))))) (need (eqT false false) (eqI (subW IntKind.i64 oh (nth SeenT l i).snd.fst) (subW IntKind.i64 oh (nth SeenT l i).snd.fst) (eqL (ltB
    0 (subW IntKind.i64 oh (nth SeenT l i).snd.fst)) (ltB 0 (subW IntKind.i64 oh (nth SeenT l i).snd.fst)) (eqL (ltB 0 (subW IntKind.i64 oh (nth SeenT l i).snd.fst))
    false (eqI (subW IntKind.i64 oh (nth SeenT l i).snd.fst) (subW IntKind.i64 oh (nth SeenT l i).snd.fst) (eqL (eqB (subW IntKind.i64 oh (nth SeenT l i).snd.fst) 0)
    (eqB (subW IntKind.i64 oh (nth SeenT l i).snd.fst) 0) (eqL (eqB (subW IntKind.i64 oh (nth SeenT l i).snd.fst) 0) false (need (eqT false false) (eqL false false (eqL
    false false (eqD l l (eqI al al (eqL up up (eqL true true (eqI (addW IntKind.i64 i 1) (addW IntKind.i64 i 1) (eqI oi oi (eqI oh oh (eqI oa oa (Inv (l, al, up, true,
    addW IntKind.i64 i 1, oi, oh, oa, false) ∧ meas (l, al, up, true, addW IntKind.i64 i 1, oi, oh, oa, false) < nn)))))))))))))))))))))))))))))))))))))))))))))) (need
    (eqT false false) (eqI (subW IntKind.i64 oh (nth SeenT l i).snd.fst) (subW IntKind.i64 oh (nth SeenT l i).snd.fst) (eqI al al (eqL (leB al (subW IntKind.i64 oh (nth
    SeenT l i).snd.fst)) (leB al (subW IntKind.i64 oh (nth SeenT l i).snd.fst)) (eqL (leB al (subW IntKind.i64 oh (nth SeenT l i).snd.fst)) false (eqI (subW IntKind.i64
    oh (nth SeenT l i).snd.fst) (subW IntKind.i64 oh (nth SeenT l i).snd.fst) (eqI (subW IntKind.i64 0 (subW IntKind.i64 oh (nth SeenT l i).snd.fst)) (subW IntKind.i64
    0 (subW IntKind.i64 oh (nth SeenT l i).snd.fst)) (eqI al al (eqL (leB al (subW IntKind.i64 0 (subW IntKind.i64 oh (nth SeenT l i).snd.fst))) (leB al (subW IntKind.i64
    0 (subW IntKind.i64 oh (nth SeenT l i).snd.fst))) (eqL (leB al (subW IntKind.i64 0 (subW IntKind.i64 oh (nth SeenT l i).snd.fst))) (leB al (subW IntKind.i64 0 (subW
    IntKind.i64 oh (nth SeenT l i).snd.fst))) (eqL (leB al (subW IntKind.i64 0 (subW IntKind.i64 oh (nth SeenT l i).snd.fst))) false (eqI (subW IntKind.i64 oh (nth SeenT
    l i).snd.fst) (subW IntKind.i64 oh (nth SeenT l i).snd.fst) (eqL (eqB (subW IntKind.i64 oh (nth SeenT l i).snd.fst) 0) (eqB (subW IntKind.i64 oh (nth SeenT l i).snd.fst)
    0) (eqL (eqB (subW IntKind.i64 oh (nth SeenT l i).snd.fst) 0) false (need (eqT false false) (eqL false false (eqL false false (ifB (ltB 0 (subW IntKind.i64 oh (nth
    SeenT l i).snd.fst)) (need (eqT true true) (eqI (subW IntKind.i64 oh (nth SeenT l i).snd.fst) (subW IntKind.i64 oh (nth SeenT l i).snd.fst) (eqL (ltB 0 (subW IntKind.i64
    oh (nth SeenT l i).snd.fst)) (ltB 0 (subW IntKind.i64 oh (nth SeenT l i).snd.fst)) (eqL (ltB 0 (subW IntKind.i64 oh (nth SeenT l i).snd.fst)) true (need (eqT true
    true) (eqL true true (eqD l l (eqI al al (eqL true true (eqL dn dn (eqI (addW IntKind.i64 i 1) (addW IntKind.i64 i 1) (eqI oi oi (eqI oh oh (eqI oa oa (Inv (l, al,
    true, dn, addW IntKind.i64 i 1, oi, oh, oa, false) ∧ meas (l, al, true, dn, addW IntKind.i64 i 1, oi, oh, oa, false) < nn))))))))))))))) (ifB (eqB (subW IntKind.i64
    oh (nth SeenT l i).snd.fst) 0) (need (inI i (lenI l)) (eqI (subW IntKind.i64 oh (nth SeenT l i).snd.fst) (subW IntKind.i64 oh (nth SeenT l i).snd.fst) (eqL (ltB
    0 (subW IntKind.i64 oh (nth SeenT l i).snd.fst)) (ltB 0 (subW IntKind.i64 oh (nth SeenT l i).snd.fst)) (eqL (ltB 0 (subW IntKind.i64 oh (nth SeenT l i).snd.fst))
    false (eqI (subW IntKind.i64 oh (nth SeenT l i).snd.fst) (subW IntKind.i64 oh (nth SeenT l i).snd.fst) (eqL (eqB (subW IntKind.i64 oh (nth SeenT l i).snd.fst) 0)
    (eqB (subW IntKind.i64 oh (nth SeenT l i).snd.fst) 0) (eqL (eqB (subW IntKind.i64 oh (nth SeenT l i).snd.fst) 0) true (eqI oi oi (need (AV.view (@List.nil Nat) SeenT
    l = AV.view (@List.nil Nat) SeenT l) (eqI i i (need (inI i (lenI l)) (need (AV.vptr (@List.nil Nat) (AV.int IntKind.i64 (nth SeenT l i).fst :: AV.int IntKind.i64
    (nth SeenT l i).snd.fst :: AV.int IntKind.i64 (nth SeenT l i).snd.snd :: @List.nil AV) = AV.vptr (@List.nil Nat) (AV.int IntKind.i64 (nth SeenT l i).fst :: AV.int
    IntKind.i64 (nth SeenT l i).snd.fst :: AV.int IntKind.i64 (nth SeenT l i).snd.snd :: @List.nil AV)) (need (AV.vptr (@List.nil Nat) (AV.int IntKind.i64 (nth SeenT
    l i).fst :: AV.int IntKind.i64 (nth SeenT l i).snd.fst :: AV.int IntKind.i64 (nth SeenT l i).snd.snd :: @List.nil AV) = AV.vptr (@List.nil Nat) (AV.int IntKind.i64
    (nth SeenT l i).fst :: AV.int IntKind.i64 (nth SeenT l i).snd.fst :: AV.int IntKind.i64 (nth SeenT l i).snd.snd :: @List.nil AV)) (eqI (nth SeenT l i).fst (nth SeenT
    l i).fst (eqL (ltB (nth SeenT l i).fst oi) (ltB (nth SeenT l i).fst oi) (eqL (ltB (nth SeenT l i).fst oi) (ltB (nth SeenT l i).fst oi) (eqL (ltB (nth SeenT l i).fst
    oi) (ltB (nth SeenT l i).fst oi) (eqD l l (eqI al al (eqL (selB (ltB (nth SeenT l i).fst oi) true up) (selB (ltB (nth SeenT l i).fst oi) true up) (eqL (selB (ltB
    (nth SeenT l i).fst oi) dn true) (selB (ltB (nth SeenT l i).fst oi) dn true) (eqI (addW IntKind.i64 i 1) (addW IntKind.i64 i 1) (eqI oi oi (eqI oh oh (eqI oa oa
    (Inv (l, al, selB (ltB (nth SeenT l i).fst oi) true up, selB (ltB (nth SeenT l i).fst oi) dn true, addW IntKind.i64 i 1, oi, oh, oa, false) ∧ meas (l, al, selB (ltB
    (nth SeenT l i).fst oi) true up, selB (ltB (nth SeenT l i).fst oi) dn true, addW IntKind.i64 i 1, oi, oh, oa, false) < nn)))))))))))))))))))))))))) (need (eqT false
    false) (eqI (subW IntKind.i64 oh (nth SeenT l i).snd.fst) (subW IntKind.i64 oh (nth SeenT l i).snd.fst) (eqL (ltB 0 (subW IntKind.i64 oh (nth SeenT l i).snd.fst))
    (ltB 0 (subW IntKind.i64 oh (nth SeenT l i).snd.fst)) (eqL (ltB 0 (subW IntKind.i64 oh (nth SeenT l i).snd.fst)) false (eqI (subW IntKind.i64 oh (nth SeenT l i).snd.fst)
    (subW IntKind.i64 oh (nth SeenT l i).snd.fst) (eqL (eqB (subW IntKind.i64 oh (nth SeenT l i).snd.fst) 0) (eqB (subW IntKind.i64 oh (nth SeenT l i).snd.fst) 0) (eqL
    (eqB (subW IntKind.i64 oh (nth SeenT l i).snd.fst) 0) false (need (eqT false false) (eqL false false (eqL false false (eqD l l (eqI al al (eqL up up (eqL true true
    (eqI (addW IntKind.i64 i 1) (addW IntKind.i64 i 1) (eqI oi oi (eqI oh oh (eqI oa oa (Inv (l, al, up, true, addW IntKind.i64 i 1, oi, oh, oa, false) ∧ meas (l, al,
    up, true, addW IntKind.i64 i 1, oi, oh, oa, false) < nn))))))))))))))))))))))))))))))))))))))))))))))))))))) (eqD l l (eqI al al (eqL up up (eqL dn dn (eqI i i (eqI
    oi oi (eqI oh oh (eqI oa oa (EE0 (l, al, up, dn, i, oi, oh, oa, false))))))))))) := by kernel_rfl
theorem body_many_ok : ∀ x y, Pre_many x → Inv_many x y → awp tab fs_alive (acall tab fs_alive specs_size fns 100 20) [] 100 (loopAt Try.f6 5) (bodyN sh_many sx_many nx_many (Inv_many x) (M_many x) (M_many x y) (D_many x)) (sh_many y) := by
  rintro ⟨l0, al0, up0, dn0, i0, oi0, oh0, oa0, r0⟩ ⟨l, al, up, dn, i, oi, oh, oa, r⟩ hp hI
  obtain ⟨⟨rfl, rfl, rfl, rfl, rfl⟩, hI⟩ := hI
  have hp : i0 = 0 ∧ up0 = false ∧ dn0 = false ∧ lenI l ≤ 60 ∧ (1 ≤ al ∧ al ≤ 1099511627776) ∧ (-1099511627776 ≤ oh ∧ oh ≤ 1099511627776) := hp
  unfold D_many
  rw [body_many]
  have hInv : ∀ (up : Bool) (dn : Bool) (i : Int) (r : Bool), ((0 ≤ i ∧ i ≤ lenI l) ∧ up = upF oi oh al (l.take i.toNat) ∧ dn = dnF oi oh al (l.take i.toNat)) → Inv_many (l, al, up0, dn0, i0, oi, oh, oa, r0) (l, al, up, dn, i, oi, oh, oa, r) := fun _ _ _ _ h => ⟨⟨rfl, rfl, rfl, rfl, rfl⟩, h⟩
  generalize hIe : Inv_many (l, al, up0, dn0, i0, oi, oh, oa, r0) = Inv at hInv ⊢
  have hMe : ∀ (up : Bool) (dn : Bool) (i : Int) (r : Bool), M_many (l, al, up0, dn0, i0, oi, oh, oa, r0) (l, al, up, dn, i, oi, oh, oa, r) = (lenI l - i).toNat := fun _ _ _ _ => rfl
  generalize M_many (l, al, up0, dn0, i0, oi, oh, oa, r0) = Me at hMe ⊢
  have hE0 : ∀ (up : Bool) (dn : Bool) (i : Int) (r : Bool), (up = upF oi oh al l ∧ dn = dnF oi oh al l) → E0_many (l, al, up0, dn0, i0, oi, oh, oa, r0) (l, al, up, dn, i, oi, oh, oa, r) := fun _ _ _ _ h => ⟨⟨rfl, rfl, rfl, rfl, rfl⟩, h⟩
  generalize E0_many (l, al, up0, dn0, i0, oi, oh, oa, r0) = EE0 at hE0 ⊢
  have hR : ∀ (up : Bool) (dn : Bool) (i : Int) (r : Bool), (r = true) → R_many (l, al, up0, dn0, i0, oi, oh, oa, r0) (l, al, up, dn, i, oi, oh, oa, r) := fun _ _ _ _ h => ⟨⟨rfl, rfl, rfl, rfl, rfl⟩, h⟩
  generalize R_many (l, al, up0, dn0, i0, oi, oh, oa, r0) = RR at hR ⊢
  obtain ⟨hi, hu, hd⟩ := hI
  obtain ⟨p1, p2, p3, p4, p5, p6⟩ := hp
  by_cases hlt : i < lenI l
  · obtain ⟨a, b, c, hx⟩ : ∃ (a b c : Int), nth SeenT l i = (a, b, c) := ⟨_, _, _, rfl⟩
    have ei : addW .i64 i 1 = i + 1 := addW64 (by omega) (by omega)
    have hu' : upF oi oh al (l.take (i + 1).toNat) = (up || decide (senseF oi oh a b al = 1)) := by
      rw [take_nth (t := SeenT) hi.1 hlt, hx, hu]; simp [upF]
    have hd' : dnF oi oh al (l.take (i + 1).toNat) = (dn || decide (senseF oi oh a b al = 2)) := by
      rw [take_nth (t := SeenT) hi.1 hlt, hx, hd]; simp [dnF]
    rw [ltB_t.2 hlt]
    simp only [hx]
    by_cases hb : 1099511627776 < b ∨ b < -1099511627776
    · rw [show selB (ltB 1099511627776 b) true (ltB b (-1099511627776)) = true by simp only [selB_t, ltB_def]; simp; omega]
      simp only [need_def, appL_def, ifB_def, impB_def, selB_f, selB_t, selI_def, selX_def, notB_def, andB_def, orB_def, beqB_def, ltB_def, leB_def, eqB_def, seqB_def, eqI_def, eqL_def, eqS_def, eqD_def, eqT_def, imp_def, inI_def, nzI_def, geZ_def, ret_bool, ret_int, Bool.and_eq_true, Bool.or_eq_true, Bool.not_eq_true', Bool.not_eq_false', decide_eq_true_eq, decide_eq_false_iff_not, Bool.and_eq_false_iff, Bool.or_eq_false_iff, Int.not_lt, Int.not_le, true_and, and_true, implies_true, Bool.false_eq_true, Bool.true_eq_false, false_implies, forall_const, reduceCtorEq, if_true, if_false, true_implies]
      exact ⟨⟨hi.1, hlt⟩, ⟨fun _ => ⟨hi.1, hlt⟩, hR _ _ _ _ rfl⟩⟩
    · rw [show selB (ltB 1099511627776 b) true (ltB b (-1099511627776)) = false by simp only [selB_t, ltB_def]; simp; omega]
      have ed : subW .i64 oh b = oh - b := subW64 (by omega) (by omega)
      have en : subW .i64 0 (oh - b) = 0 - (oh - b) := subW64 (by omega) (by omega)
      simp only [ed, en, ei]
      have hs1 : senseF oi oh a b al = 1 ↔ (¬ (al ≤ oh - b) ∧ ¬ (al ≤ b - oh)) ∧ (b < oh ∨ b = oh ∧ a < oi) := by
        unfold senseF apartF; (repeat' split) <;> omega
      have hs2 : senseF oi oh a b al = 2 ↔ (¬ (al ≤ oh - b) ∧ ¬ (al ≤ b - oh)) ∧ (oh < b ∨ b = oh ∧ oi < a) := by
        unfold senseF apartF; (repeat' split) <;> omega
      by_cases h6 : a < oi
      · simp only [ltB_t.2 h6]
        simp only [need_def, appL_def, ifB_def, impB_def, selB_f, selB_t, selI_def, selX_def, notB_def, andB_def, orB_def, beqB_def, ltB_def, leB_def, eqB_def, seqB_def, eqI_def, eqL_def, eqS_def, eqD_def, eqT_def, imp_def, inI_def, nzI_def, geZ_def, ret_bool, ret_int, Bool.and_eq_true, Bool.or_eq_true, Bool.not_eq_true', Bool.not_eq_false', decide_eq_true_eq, decide_eq_false_iff_not, Bool.and_eq_false_iff, Bool.or_eq_false_iff, Int.not_lt, Int.not_le, true_and, and_true, implies_true, Bool.false_eq_true, Bool.true_eq_false, false_implies, forall_const, reduceCtorEq, if_true, if_false, true_implies, hMe, selB_def]
        repeat' (first
          | with_reducible rfl
          | (apply hInv; rw [hu', hd']; refine ⟨by omega, ?_, ?_⟩)
          | omega
          | (rw [decide_eq_true (hs1.2 (by omega))]; simp; done)
          | (rw [decide_eq_false (fun h => absurd (hs1.1 h) (by omega))]; simp; done)
          | (rw [decide_eq_true (hs2.2 (by omega))]; simp; done)
          | (rw [decide_eq_false (fun h => absurd (hs2.1 h) (by omega))]; simp; done)
          | refine ⟨?_, ?_⟩
          | intro _)
      · simp only [ltB_f.2 (Int.not_lt.1 h6)]
        simp only [need_def, appL_def, ifB_def, impB_def, selB_f, selB_t, selI_def, selX_def, notB_def, andB_def, orB_def, beqB_def, ltB_def, leB_def, eqB_def, seqB_def, eqI_def, eqL_def, eqS_def, eqD_def, eqT_def, imp_def, inI_def, nzI_def, geZ_def, ret_bool, ret_int, Bool.and_eq_true, Bool.or_eq_true, Bool.not_eq_true', Bool.not_eq_false', decide_eq_true_eq, decide_eq_false_iff_not, Bool.and_eq_false_iff, Bool.or_eq_false_iff, Int.not_lt, Int.not_le, true_and, and_true, implies_true, Bool.false_eq_true, Bool.true_eq_false, false_implies, forall_const, reduceCtorEq, if_true, if_false, true_implies, hMe, selB_def]
        repeat' (first
          | with_reducible rfl
          | (apply hInv; rw [hu', hd']; refine ⟨by omega, ?_, ?_⟩)
          | omega
          | (rw [decide_eq_true (hs1.2 (by omega))]; simp; done)
          | (rw [decide_eq_false (fun h => absurd (hs1.1 h) (by omega))]; simp; done)
          | (rw [decide_eq_true (hs2.2 (by omega))]; simp; done)
          | (rw [decide_eq_false (fun h => absurd (hs2.1 h) (by omega))]; simp; done)
          | refine ⟨?_, ?_⟩
          | intro _)
  · rw [take_all (by omega)] at hu hd
    rw [ltB_f.2 (Int.not_lt.1 hlt)]
    simp only [need_def, appL_def, ifB_def, impB_def, selB_f, selB_t, selI_def, selX_def, notB_def, andB_def, orB_def, beqB_def, ltB_def, leB_def, eqB_def, seqB_def, eqI_def, eqL_def, eqS_def, eqD_def, eqT_def, imp_def, inI_def, nzI_def, geZ_def, ret_bool, ret_int, Bool.and_eq_true, Bool.or_eq_true, Bool.not_eq_true', Bool.not_eq_false', decide_eq_true_eq, decide_eq_false_iff_not, Bool.and_eq_false_iff, Bool.or_eq_false_iff, Int.not_lt, Int.not_le, true_and, and_true, implies_true, Bool.false_eq_true, Bool.true_eq_false, false_implies, forall_const, reduceCtorEq, if_true, if_false, true_implies]
    exact hE0 _ _ _ _ ⟨hu, hd⟩
theorem summ_many : SummOK Try.prog (loopAt Try.f6 5) S_many :=
  summN_ok (L := []) (fuel := 100) tabOK fsOK_alive (mkCall fsOK_alive specsOK_size fnsOK) (fun C => mkDraw fsOK_alive (mkCall fsOK_alive specsOK_size fnsOK) C) loopsOK_nil Inv_many M_many
    (fun x hp => by
      obtain ⟨l, al, up, dn, i, oi, oh, oa, r⟩ := x
      have hp : i = 0 ∧ up = false ∧ dn = false ∧ lenI l ≤ 60 ∧ (1 ≤ al ∧ al ≤ 1099511627776) ∧ (-1099511627776 ≤ oh ∧ oh ≤ 1099511627776) := hp
      obtain ⟨rfl, rfl, rfl, h⟩ := hp
      exact ⟨⟨rfl, rfl, rfl, rfl, rfl⟩, ⟨by omega, lenI_nn _⟩, rfl, rfl⟩)
    body_many_ok
theorem hasI {a : Int} (h : IntKind.has .i64 a) : rI a := has64.1 h
theorem comb_any (o : Int) (ho : o = 0 ∨ o = 1 ∨ o = 2) : ∀ (l : List Int), (∀ x ∈ l, x = 0 ∨ x = 1 ∨ x = 2) → combG o l =
    if (o = 1 ∨ 1 ∈ l) ∧ ¬ (o = 2 ∨ 2 ∈ l) then 1 else if (o = 2 ∨ 2 ∈ l) ∧ ¬ (o = 1 ∨ 1 ∈ l) then 2 else 0
  | [], _ => by rcases ho with rfl | rfl | rfl <;> simp [combG]
  | x :: l, h => by
    have hx := h x (by simp)
    have hl : ∀ y ∈ l, y = 0 ∨ y = 1 ∨ y = 2 := fun y hy => h y (by simp [hy])
    simp only [combG]
    have i0 := comb_any o ho l hl
    have i1 := comb_any x hx l hl
    rcases ho with rfl | rfl | rfl <;> rcases hx with rfl | rfl | rfl <;> simp at i0 i1 ⊢ <;> first | exact i0 | exact i1 | (by_cases h1 : (1 : Int) ∈ l <;> by_cases h2 : (2 : Int) ∈ l <;> simp_all)
theorem sense_range (i h i' h' al : Int) : senseF i h i' h' al = 0 ∨ senseF i h i' h' al = 1 ∨ senseF i h i' h' al = 2 := by
  unfold senseF; (repeat' split) <;> omega
theorem comb_all (i h al : Int) (l : List (den SeenT)) : combineF (allF i h al l) = selI (selB (dnF i h al l) (notB (upF i h al l)) false) 2 (selI (selB (upF i h al l) (notB (dnF i h al l)) false) 1 0) := by
  unfold combineF
  rw [comb_any 0 (.inl rfl) _ (by unfold allF; intro x hx; obtain ⟨y, _, rfl⟩ := List.mem_map.1 hx; exact sense_range ..)]
  have e1 : (1 ∈ allF i h al l) ↔ upF i h al l = true := by unfold allF upF; simp
  have e2 : (2 ∈ allF i h al l) ↔ dnF i h al l = true := by unfold allF dnF; simp
  simp only [e1, e2, selI_def, selB_f, notB_def]
  cases upF i h al l <;> cases dnF i h al l <;> simp
noncomputable def fns_LPairMany : Fns := (6, Try.f6, [(5, S_many)]) :: fns
theorem fn_LPairMany : FnOK Try.prog 6 Try.f6 [(5, S_many)] := fnOK_loops Try.func6 (fun vs w => Try.call6 vs w) (by kernel_rfl) fun k S h => by
  simp only [List.mem_cons, Prod.mk.injEq, List.not_mem_nil, or_false] at h
  obtain ⟨rfl, rfl⟩ := h
  exact summ_many
theorem fns_LPairManyOK : FnsOK Try.prog fns_LPairMany := fnsOK_cons fn_LPairMany fnsOK
theorem PairMany_eq (i h g : Int) (l : List (den SeenT)) (al : Int) : acall tab fs_alive specs_size fns_LPairMany 100 20 6 [.agg [.int .i64 i, .int .i64 h, .int .i64 g], .view [] SeenT l, .int .i64 al] [] (fun o _ _ _ => o = .ret (.bool true)) =
  (ifB (selB (selB (selB (selB (ltB al 1) true (ltB 1099511627776 al)) true (ltB 1099511627776 h)) true (ltB h (-1099511627776))) true (ltB 60 (lenI l))) (AOut.ret
    (AV.bool true) = AOut.ret (AV.bool true)) (eqD l l (eqI al al (eqL false false (eqL false false (eqI 0 0 (eqI i i (eqI h h (eqI g g (((0 : Int) = 0 ∧ false = false
    ∧ false = false ∧ lenI l ≤ 60 ∧ (1 ≤ al ∧ al ≤ 1099511627776) ∧ -1099511627776 ≤ h ∧ h ≤ 1099511627776) ∧ ((∀ (y : X_many), (y.1 = l ∧ y.2.1 = al ∧ y.2.2.2.2.2.1
    = i ∧ y.2.2.2.2.2.2.1 = h ∧ y.2.2.2.2.2.2.2.1 = g) ∧ y.2.2.1 = upF y.2.2.2.2.2.1 y.2.2.2.2.2.2.1 y.2.1 y.1 ∧ y.2.2.2.1 = dnF y.2.2.2.2.2.1 y.2.2.2.2.2.2.1 y.2.1
    y.1 → need (lenOK (lenI y.1)) (need (rI y.2.2.2.2.2.2.1) (need (rI y.2.1) (need (rIs y.1) (need (lenOK (lenI (allF y.2.2.2.2.2.1 y.2.2.2.2.2.2.1 y.2.1 y.1))) (AOut.ret
    (AV.bool (eqB (combineF (allF y.2.2.2.2.2.1 y.2.2.2.2.2.2.1 y.2.1 y.1)) (selI (selB y.2.2.2.1 (notB y.2.2.1) false) 2 (selI (selB y.2.2.1 (notB y.2.2.2.1) false)
    1 0)))) = AOut.ret (AV.bool true))))))) ∧ True) ∧ ∀ (y : X_many), (y.1 = l ∧ y.2.1 = al ∧ y.2.2.2.2.2.1 = i ∧ y.2.2.2.2.2.2.1 = h ∧ y.2.2.2.2.2.2.2.1 = g) ∧ y.2.2.2.2.2.2.2.2
    = true → AOut.ret (AV.bool y.2.2.2.2.2.2.2.2) = AOut.ret (AV.bool true))))))))))) := by kernel_rfl
theorem PairMany_call : CallOK Try.prog (acall tab fs_alive specs_size fns_LPairMany 100 20) := mkCall fsOK_alive specsOK_size fns_LPairManyOK
theorem PairMany_go (i h g : Int) (l : List (den SeenT)) (al : Int) (hl : rIs l) (hh : rI h) (ha : rI al) : LawEv (acall tab fs_alive specs_size fns_LPairMany 100 20) 6 [.agg [.int .i64 i, .int .i64 h, .int .i64 g], .view [] SeenT l, .int .i64 al] := by
  refine ⟨?_⟩
  rw [PairMany_eq]
  by_cases hc : (al < 1 ∨ 1099511627776 < al) ∨ (1099511627776 < h ∨ h < -1099511627776) ∨ 60 < lenI l
  · rw [show selB (selB (selB (selB (ltB al 1) true (ltB 1099511627776 al)) true (ltB 1099511627776 h)) true (ltB h (-1099511627776))) true (ltB 60 (lenI l)) = true by simp only [selB_t, ltB_def]; simp; omega]
    simp only [need_def, appL_def, ifB_def, impB_def, selB_f, selB_t, selI_def, selX_def, notB_def, andB_def, orB_def, beqB_def, ltB_def, leB_def, eqB_def, seqB_def, eqI_def, eqL_def, eqS_def, eqD_def, eqT_def, imp_def, inI_def, nzI_def, geZ_def, ret_bool, ret_int, Bool.and_eq_true, Bool.or_eq_true, Bool.not_eq_true', Bool.not_eq_false', decide_eq_true_eq, decide_eq_false_iff_not, Bool.and_eq_false_iff, Bool.or_eq_false_iff, Int.not_lt, Int.not_le, true_and, and_true, implies_true, Bool.false_eq_true, Bool.true_eq_false, false_implies, forall_const, reduceCtorEq, if_true, if_false, true_implies]
  · rw [show selB (selB (selB (selB (ltB al 1) true (ltB 1099511627776 al)) true (ltB 1099511627776 h)) true (ltB h (-1099511627776))) true (ltB 60 (lenI l)) = false by simp only [selB_t, ltB_def]; simp; omega]
    simp only [ifB_def, Bool.false_eq_true, false_implies, true_and, forall_const, eqD_def, eqI_def, eqL_def, need_def, and_true]
    refine ⟨⟨by omega, by omega, by omega⟩, ?_, ?_⟩
    · rintro ⟨l', al', up, dn, i', oi, oh, oa, r⟩ ⟨hk, h1, h2⟩
      dsimp only at hk h1 h2 ⊢
      obtain ⟨rfl, rfl, rfl, rfl, rfl⟩ := hk
      subst h1 h2
      refine ⟨by unfold lenOK; omega, hh, ha, hl, by unfold lenOK allF lenI at *; simp; omega, ?_⟩
      rw [comb_all]
      simp [eqB_def]
    · rintro ⟨l', al', up, dn, i', oi, oh, oa, r⟩ ⟨hk, rfl⟩
      rfl
theorem PairMany_ev : ∀ xs : DT [(.prod (.int .i64) (.prod (.int .i64) (.int .i64))), (.list (.prod (.int .i64) (.prod (.int .i64) (.int .i64)))), (.int .i64)], wfs [(.prod (.int .i64) (.prod (.int .i64) (.int .i64))), (.list (.prod (.int .i64) (.prod (.int .i64) (.int .i64)))), (.int .i64)] xs → LawEv (acall tab fs_alive specs_size fns_LPairMany 100 20) 6 (argsA tab #[23, 36, 3].toList [(.prod (.int .i64) (.prod (.int .i64) (.int .i64))), (.list (.prod (.int .i64) (.prod (.int .i64) (.int .i64)))), (.int .i64)] xs) := by
  rintro ⟨⟨i, h, g⟩, l, al, ⟨⟩⟩ hw
  exact PairMany_go i h g l al (fun x hx => ⟨hasI (hw.2.1.2 x hx).1, hasI (hw.2.1.2 x hx).2.1, hasI (hw.2.1.2 x hx).2.2⟩) (hasI hw.1.2.1) (hasI hw.2.2.1)



theorem PairMany_own : ownKnob Try.prog.godebug = none := by kernel_rfl
theorem PairMany_kids : Kids Try.prog (· < Try.prog.types.size) := kids_rows (by kernel_rfl) (by kernel_rfl)
theorem PairMany_full : ∀ t e, t < Try.prog.types.size → Try.prog.underlying t = some (.slice e) → 0 < Try.prog.cellsOf e := slices_full_of _ (by kernel_rfl)

theorem PairMany_lifted (os : Os) (started : os.Started) (H : Type) (enc : TypeId × Value → H) :
    ReturnsInHanded {} Try.checked os 6 .any (Rows.pairManySpec.pre6 enc Try.prog Try.f6 Rows.pairManyRow.domain false) (Rows.pairManySpec.post enc Try.prog Try.f6 false true false false) := by
  refine returnsInHanded_of_change_shaped (C := Try.checked) PairMany_own started (by kernel_rfl) Try.func6
    (ChangeSpec.witness6 (enc := enc) (C := Try.checked) false ⟨#[], #[(Value.agg #[(Value.int IntKind.i64 0), (Value.int IntKind.i64 0), (Value.int IntKind.i64 0)]), (Value.slice none 0 0), (Value.int IntKind.i64 0)], []⟩ 8 (by kernel_rfl) (by kernel_rfl) (by kernel_rfl) (by kernel_rfl)) ?_
  intro W base args ds gs before hval hW _ hwt _ _
  refine law_contract' (P := Try.prog) (fn := Try.f6) (s := Rows.pairManySpec) (tb := 4) (Ts := [(.prod (.int .i64) (.prod (.int .i64) (.int .i64))), (.list (.prod (.int .i64) (.prod (.int .i64) (.int .i64)))), (.int .i64)]) (call := (acall tab fs_alive specs_size fns_LPairMany 100 20)) (f := 6) tabOK PairMany_call PairMany_kids PairMany_full Try.params6 (by decide +kernel) rfl rfl Try.underlying4 ?_ (by kernel_rfl) PairMany_ev hval hW hwt
  intro ds hl
  match ds, hl with
  | [d0, d1, d2], _ => rfl

theorem PairMany_holds : Rows.PairManySaid :=
  OpenClaim.holds_of_wide 6 Try.f6 rfl rfl rfl rfl rfl rfl rfl ⟨rfl, rfl, rfl, rfl, rfl⟩ rfl rfl rfl rfl rfl (by kernel_rfl) Try.func6 (by kernel_rfl)
    (of_decide_eq_true (by kernel_rfl)) (by unfold Func.isWrapper; first | (rw [if_pos (by decide +kernel)]; kernel_rfl) | (rw [if_neg (by decide +kernel)]; exact ⟨rfl, rfl⟩))
    (fun os started H enc _ => PairMany_lifted os started H enc)

end Go.Proofs.Yticnfdlfhakneaa
