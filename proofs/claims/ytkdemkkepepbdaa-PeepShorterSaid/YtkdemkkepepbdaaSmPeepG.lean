/- Once and Run of one rule alone. -/
import Derived.Test.YtkdemkkepepbdaaSmPeepF
namespace Go.Proofs.Ytkdemkkepepbdaa.Sx
open Go.RowKit
set_option maxRecDepth 100000
set_option maxHeartbeats 4000000
set_option linter.unusedVariables false
set_option linter.unusedSimpArgs false
def mcapV (ty : Ty) (σ : St) (b o j : Nat) : List (den ty) := match cellOf σ b o with
  | .fn _ _ cap => match lget cap j with
    | .vptr _ [.view _ t' xs] => match castL t' ty xs with | some ys => ys | none => []
    | _ => []
  | _ => []
def mcapI (σ : St) (b o j : Nat) : Int := match cellOf σ b o with
  | .fn _ _ cap => match lget cap j with
    | .vptr _ (.int _ n :: _) => n
    | _ => 0
  | _ => 0
def mcapB (σ : St) (b o j : Nat) : Bool := match cellOf σ b o with
  | .fn _ _ cap => match lget cap j with
    | .vptr _ (.bool n :: _) => n
    | _ => false
  | _ => false
def pickS (t : List AV → List Blk → Bool) (S1 S2 : List AV → List Blk → AK → Prop) : List AV → List Blk → AK → Prop := fun args m K => match t args m with | true => S1 args m K | false => S2 args m K
theorem pickS_ok {P : Program} {f : FuncId} {t : List AV → List Blk → Bool} {S1 S2 : List AV → List Blk → AK → Prop} (h1 : SpecOK P f S1) (h2 : SpecOK P f S2) : SpecOK P f (pickS t S1 S2) := ⟨h1.step, fun {args m K} hS => by
  unfold pickS at hS
  split at hS
  · exact h1.calls hS
  · exact h2.calls hS⟩
def shortL (to : List (den CodeT)) : Prop := lenI to ≤ 1
theorem pick_one {r : Rul} {l : List (den CodeT)} {i : Int} (h : goodR r l i = true) : pickR [r] l i = some (putC l i (rulF r l i).1 (rulF r l i).2.1) := by
  rw [pick_cons, if_pos h]
theorem pick_no {r : Rul} {l : List (den CodeT)} {i : Int} (h : goodR r l i = false) : pickR [r] l i = none := by
  rw [pick_cons, if_neg (by rw [h]; simp)]; rfl
abbrev X_once_tu := List (den CodeT) × List (den CodeT) × Int × Int × Int × Int × List (den CodeT) × Bool × List (den CodeT) × Int
def sh_once_tu : X_once_tu → St := fun x => match x with | (l, lent, i, n, i2, j, r4, r5, to, f) => ⟨setL (rep .bad 63) [(0, .view [] CodeT l), (6, .view [] CodeT lent), (7, .int .i64 i), (16, .int .i64 n), (17, .int .i64 i2), (22, .int .i64 j), (1, .vsl 0 0 1 1), (20, .vsl 0 0 1 1), (21, .int .i64 1)], [.var [.fn (.func 16) [] [.vptr [] [.view [] CodeT to], .vptr [] [.int .i64 f]]]], [], []⟩
def shr_once_tu : X_once_tu → St := fun x => match x with | (l, lent, i, n, i2, j, r4, r5, to, f) => ⟨setL (rep .bad 63) [(0, .view [] CodeT l), (6, .view [] CodeT lent), (7, .int .i64 i), (16, .int .i64 n), (17, .int .i64 i2), (22, .int .i64 j), (4, .view [] CodeT r4), (5, .bool r5), (1, .vsl 0 0 1 1), (20, .vsl 0 0 1 1), (21, .int .i64 1)], [.var [.fn (.func 16) [] [.vptr [] [.view [] CodeT to], .vptr [] [.int .i64 f]]]], [], []⟩
def sx_once_tu : AExit → X_once_tu → St := fun e => match e with | .ret => shr_once_tu | _ => sh_once_tu
def nx_once_tu (σ : St) : X_once_tu := (gV CodeT σ 0, gV CodeT σ 6, gI σ 7, gI σ 16, gI σ 17, gI σ 22, gV CodeT σ 4, gB σ 5, mcapV CodeT σ 0 0 0, mcapI σ 0 0 1)
def Pre_once_tu : X_once_tu → Prop := fun x => match x with | (l, lent, i, n, i2, j, r4, r5, to, f) => ((j = 0)) ∧ (inI i (lenI l) ∧ lent = l ∧ smallC l ∧ shortL to)
def E2_once_tu : X_once_tu → X_once_tu → Prop := fun x y => match x, y with | (l0, lent0, i0, n0, i20, j0, r40, r50, to0, f0), (l, lent, i, n, i2, j, r4, r5, to, f) => (l = l0 ∧ lent = lent0 ∧ i = i0 ∧ n = n0 ∧ i2 = i20 ∧ to = to0 ∧ f = f0) ∧ (pickB [(.tu to f)] l i = false)
def R_once_tu : X_once_tu → X_once_tu → Prop := fun x y => match x, y with | (l0, lent0, i0, n0, i20, j0, r40, r50, to0, f0), (l, lent, i, n, i2, j, r4, r5, to, f) => (l = l0 ∧ lent = lent0 ∧ i = i0 ∧ n = n0 ∧ i2 = i20 ∧ to = to0 ∧ f = f0) ∧ (pickB [(.tu to f)] l i = true ∧ r4 = pickL [(.tu to f)] l i ∧ r5 = true)
def D_once_tu : X_once_tu → LEnds X_once_tu := fun x => ⟨[(2, E2_once_tu x)], R_once_tu x⟩
noncomputable def S_once_tu : Summ := summN sh_once_tu sx_once_tu nx_once_tu Pre_once_tu D_once_tu
theorem body_once_tu0 (EE2 RR : X_once_tu → Prop) (l : List (den CodeT)) (lent : List (den CodeT)) (i : Int) (n : Int) (i2 : Int) (r4 : List (den CodeT)) (r5 : Bool) (to : List (den CodeT)) (f : Int) : awp tab fs_alive (acall tab fs_alive specs_rules fns 100 20) [] 100 (.loop (loopAt Try.f14 6)) (bodyN sh_once_tu sx_once_tu nx_once_tu (fun _ => False) (fun _ => 0) 0 ⟨[(2, EE2)], RR⟩) (sh_once_tu (l, lent, i, n, i2, 0, r4, r5, to, f)) =
  (ifB (selB (selB (areF lent i (f :: 3 :: @List.nil Int)) true false) (leB 2 (subW IntKind.i64 (lenI l) i)) false) (need (leI 0 0) (need (leI 0 i) (need (leI i (lenI
    l)) (need (leI 0 (addW IntKind.i64 i 2)) (need (leI (addW IntKind.i64 i 2) (lenI l)) (need (leI (lenI l) (lenI l)) (need (leI (sumC (subL l 0 i :: to :: subL l (addW
    IntKind.i64 i 2) (lenI l) :: @List.nil (den CodeT.list))) 1000000) (eqDr l (needr (AV.vsl 0 0 1 1) (eqDr (joinC (subL l 0 i :: to :: subL l (addW IntKind.i64 i 2)
    (lenI l) :: @List.nil (den CodeT.list))) (eqLr true (eqDr lent (eqIr i (eqIr n (eqIr i2 (needr (AV.vsl 0 0 1 1) (eqIr 1 (eqIr 0 (needr (AV.fn (Fn.func 16) ([]) (AV.vptr
    [] (AV.view [] CodeT to :: []) :: AV.vptr [] (AV.int IntKind.i64 f :: []) :: [])) (RR (l, lent, i, n, i2, 0, joinC (subL l 0 i :: to :: subL l (addW IntKind.i64
    i 2) (lenI l) :: @List.nil (den CodeT.list)), true, to, f))))))))))))))))))))) (eqDr l (needr (AV.vsl 0 0 1 1) (eqDr lent (eqIr i (eqIr n (eqIr i2 (needr (AV.vsl
    0 0 1 1) (eqIr 1 (eqIr 1 (needr (AV.fn (Fn.func 16) ([]) (AV.vptr [] (AV.view [] CodeT to :: []) :: AV.vptr [] (AV.int IntKind.i64 f :: []) :: [])) (EE2 (l, lent,
    i, n, i2, 1, @List.nil (den CodeT), false, to, f))))))))))))) := by kernel_rfl
theorem body_once_tu_ok : ∀ x, Pre_once_tu x → wfS (sh_once_tu x) → Hd (awp tab fs_alive (acall tab fs_alive specs_rules fns 100 20) [] 100 (.loop (loopAt Try.f14 6)) (bodyN sh_once_tu sx_once_tu nx_once_tu (fun _ => False) (fun _ => 0) 0 (D_once_tu x)) (sh_once_tu x)) := by
  rintro ⟨l0, lent0, i0, n0, i20, j0, r40, r50, to0, f0⟩ hp hw
  obtain ⟨hc, hp⟩ := hp
  have hp : inI i0 (lenI l0) ∧ lent0 = l0 ∧ smallC l0 ∧ shortL to0 := hp
  unfold D_once_tu
  have hE2 : ∀ (j : Int) (r4 : List (den CodeT)) (r5 : Bool), (pickB [(.tu to0 f0)] l0 i0 = false) → E2_once_tu (l0, lent0, i0, n0, i20, j0, r40, r50, to0, f0) (l0, lent0, i0, n0, i20, j, r4, r5, to0, f0) := fun _ _ _ h => ⟨⟨rfl, rfl, rfl, rfl, rfl, rfl, rfl⟩, h⟩
  generalize E2_once_tu (l0, lent0, i0, n0, i20, j0, r40, r50, to0, f0) = EE2 at hE2 ⊢
  have hR : ∀ (j : Int) (r4 : List (den CodeT)) (r5 : Bool), (pickB [(.tu to0 f0)] l0 i0 = true ∧ r4 = pickL [(.tu to0 f0)] l0 i0 ∧ r5 = true) → R_once_tu (l0, lent0, i0, n0, i20, j0, r40, r50, to0, f0) (l0, lent0, i0, n0, i20, j, r4, r5, to0, f0) := fun _ _ _ h => ⟨⟨rfl, rfl, rfl, rfl, rfl, rfl, rfl⟩, h⟩
  generalize R_once_tu (l0, lent0, i0, n0, i20, j0, r40, r50, to0, f0) = RR at hR ⊢
  rcases hc with rfl
  · rw [body_once_tu0]
    refine ⟨?_⟩
    obtain ⟨⟨hi0, hi1⟩, hll, hsm, hto⟩ := hp
    have hll := hll.symm
    subst hll
    unfold smallC at hsm
    have hs : subW .i64 (lenI l0) i0 = lenI l0 - i0 := subW64 (by omega) (by omega)
    have c0 := good_tu (to := to0) (f := f0) (l := l0) (i := i0) hs
    rw [c0]
    clear c0
    rw [ifB_def]
    refine ⟨fun g0 => ?_, fun g0 => ?_⟩
    · have hq := put_ok (r := (.tu to0 f0)) hi0 hi1 hsm (show lenI to0 ≤ 2 by have : lenI to0 ≤ 1 := hto; omega) g0
      obtain ⟨q1, q2, q3, q4, q5, q6, q7, q8⟩ := hq
      have hpb := pickB_some (pick_one g0)
      refine ⟨q1, q2, q3, q4, q5, q6, q7, ?_⟩
      simp only [eqI_def, eqL_def, eqD_def, need_def, true_and, and_true]
      exact hR _ _ _ ⟨hpb.1, q8.trans hpb.2.symm, rfl⟩
    · have hpk := pick_no g0
      simp only [eqI_def, eqL_def, eqD_def, need_def, true_and, and_true]
      exact hE2 _ _ _ (pickB_none hpk)
theorem summ_once_tu : SummOK Try.prog (loopAt Try.f14 6) S_once_tu :=
  summW_ok (L := []) (fuel := 100) tabOK fsOK_alive (mkCall fsOK_alive specsOK_rules fnsOK) (fun C => mkDraw fsOK_alive (mkCall fsOK_alive specsOK_rules fnsOK) C) loopsOK_nil body_once_tu_ok
abbrev X_onces_tu := List (den CodeT) × List (den CodeT) × Int × Int × List (den CodeT) × Bool × List (den CodeT) × Int
def sh_onces_tu : X_onces_tu → St := fun x => match x with | (l, lent, n, i, r4, r5, to, f) => ⟨setL (rep .bad 63) [(0, .view [] CodeT l), (6, .view [] CodeT lent), (16, .int .i64 n), (17, .int .i64 i), (1, .vsl 0 0 1 1)], [.var [.fn (.func 16) [] [.vptr [] [.view [] CodeT to], .vptr [] [.int .i64 f]]]], [], []⟩
def shr_onces_tu : X_onces_tu → St := fun x => match x with | (l, lent, n, i, r4, r5, to, f) => ⟨setL (rep .bad 63) [(0, .view [] CodeT l), (6, .view [] CodeT lent), (16, .int .i64 n), (17, .int .i64 i), (4, .view [] CodeT r4), (5, .bool r5), (1, .vsl 0 0 1 1)], [.var [.fn (.func 16) [] [.vptr [] [.view [] CodeT to], .vptr [] [.int .i64 f]]]], [], []⟩
def sx_onces_tu : AExit → X_onces_tu → St := fun e => match e with | .ret => shr_onces_tu | _ => sh_onces_tu
def nx_onces_tu (σ : St) : X_onces_tu := (gV CodeT σ 0, gV CodeT σ 6, gI σ 16, gI σ 17, gV CodeT σ 4, gB σ 5, mcapV CodeT σ 0 0 0, mcapI σ 0 0 1)
def Pre_onces_tu : X_onces_tu → Prop := fun x => match x with | (l, lent, n, i, r4, r5, to, f) => i = 0 ∧ n = lenI l ∧ lent = l ∧ smallC l ∧ shortL to
def E0_onces_tu : X_onces_tu → X_onces_tu → Prop := fun x y => match x, y with | (l0, lent0, n0, i0, r40, r50, to0, f0), (l, lent, n, i, r4, r5, to, f) => (l = l0 ∧ lent = lent0 ∧ n = n0 ∧ to = to0 ∧ f = f0) ∧ (onceB [(.tu to f)] l = false ∧ onceL [(.tu to f)] l = l)
def R_onces_tu : X_onces_tu → X_onces_tu → Prop := fun x y => match x, y with | (l0, lent0, n0, i0, r40, r50, to0, f0), (l, lent, n, i, r4, r5, to, f) => (l = l0 ∧ lent = lent0 ∧ n = n0 ∧ to = to0 ∧ f = f0) ∧ (onceB [(.tu to f)] l = true ∧ r4 = onceL [(.tu to f)] l ∧ r5 = true)
def D_onces_tu : X_onces_tu → LEnds X_onces_tu := fun x => ⟨[(0, E0_onces_tu x)], R_onces_tu x⟩
noncomputable def S_onces_tu : Summ := summN sh_onces_tu sx_onces_tu nx_onces_tu Pre_onces_tu D_onces_tu
def Inv_onces_tu : X_onces_tu → X_onces_tu → Prop := fun x y => match x, y with | (l0, lent0, n0, i0, r40, r50, to0, f0), (l, lent, n, i, r4, r5, to, f) => (l = l0 ∧ lent = lent0 ∧ n = n0 ∧ to = to0 ∧ f = f0) ∧ ((0 ≤ i ∧ i ≤ n) ∧ fromE [(.tu to f)] l i)
def M_onces_tu : X_onces_tu → X_onces_tu → Nat := fun x y => match x, y with | (l0, lent0, n0, i0, r40, r50, to0, f0), (l, lent, n, i, r4, r5, to, f) => (n - i).toNat
theorem body_onces_tu (Inv : X_onces_tu → Prop) (meas : X_onces_tu → Nat) (nn : Nat) (EE0 RR : X_onces_tu → Prop) (l : List (den CodeT)) (lent : List (den CodeT)) (n : Int) (i : Int) (r4 : List (den CodeT)) (r5 : Bool) (to : List (den CodeT)) (f : Int) : awp tab fs_alive (acall tab fs_alive specs_rules fns 100 20) [(6, S_once_tu)] 100 (loopAt Try.f14 3) (bodyN sh_onces_tu sx_onces_tu nx_onces_tu Inv meas nn ⟨[(0, EE0)], RR⟩) (sh_onces_tu (l, lent, n, i, r4, r5, to, f)) =
  (ifB (ltB i n) (eqDr l (needr (AV.vsl 0 0 1 1) (eqDr lent (eqIr i (eqIr n (eqIr i (needr (AV.vsl 0 0 1 1) (eqIr 1 (eqIr 0 (needr (AV.fn (Fn.func 16) ([]) (AV.vptr
    [] (AV.view [] CodeT to :: []) :: AV.vptr [] (AV.int IntKind.i64 f :: []) :: [])) (((0 : Int) = 0 ∧ inI i (lenI l) ∧ lent = l ∧ smallC l ∧ shortL to) ∧ ((∀ (y :
    X_once_tu), (y.1 = l ∧ y.2.1 = lent ∧ y.2.2.1 = i ∧ y.2.2.2.1 = n ∧ y.2.2.2.2.1 = i ∧ y.2.2.2.2.2.2.2.2.1 = to ∧ y.2.2.2.2.2.2.2.2.2 = f) ∧ pickB (Rul.tu y.2.2.2.2.2.2.2.2.1
    y.2.2.2.2.2.2.2.2.2 :: @List.nil Rul) y.1 y.2.2.1 = false → eqDr y.1 (needr (AV.vsl 0 0 1 1) (eqDr y.2.1 (eqIr y.2.2.2.1 (eqIr (addW IntKind.i64 y.2.2.2.2.1 1) (needr
    (AV.fn (Fn.func 16) ([]) (AV.vptr [] (AV.view [] CodeT y.2.2.2.2.2.2.2.2.1 :: []) :: AV.vptr [] (AV.int IntKind.i64 y.2.2.2.2.2.2.2.2.2 :: []) :: [])) (Inv (y.1,
    y.2.1, y.2.2.2.1, addW IntKind.i64 y.2.2.2.2.1 1, @List.nil (den CodeT), false, y.2.2.2.2.2.2.2.2.1, y.2.2.2.2.2.2.2.2.2) ∧ meas (y.1, y.2.1, y.2.2.2.1, addW IntKind.i64
    y.2.2.2.2.1 1, @List.nil (den CodeT), false, y.2.2.2.2.2.2.2.2.1, y.2.2.2.2.2.2.2.2.2) < nn))))))) ∧ True) ∧ ∀ (y : X_once_tu), (y.1 = l ∧ y.2.1 = lent ∧ y.2.2.1
    = i ∧ y.2.2.2.1 = n ∧ y.2.2.2.2.1 = i ∧ y.2.2.2.2.2.2.2.2.1 = to ∧ y.2.2.2.2.2.2.2.2.2 = f) ∧ pickB (Rul.tu y.2.2.2.2.2.2.2.2.1 y.2.2.2.2.2.2.2.2.2 :: @List.nil
    Rul) y.1 y.2.2.1 = true ∧ y.2.2.2.2.2.2.1 = pickL (Rul.tu y.2.2.2.2.2.2.2.2.1 y.2.2.2.2.2.2.2.2.2 :: @List.nil Rul) y.1 y.2.2.1 ∧ y.2.2.2.2.2.2.2.1 = true → eqDr
    y.1 (needr (AV.vsl 0 0 1 1) (eqDr y.2.2.2.2.2.2.1 (eqLr y.2.2.2.2.2.2.2.1 (eqDr y.2.1 (eqIr y.2.2.2.1 (eqIr y.2.2.2.2.1 (needr (AV.fn (Fn.func 16) ([]) (AV.vptr
    [] (AV.view [] CodeT y.2.2.2.2.2.2.2.2.1 :: []) :: AV.vptr [] (AV.int IntKind.i64 y.2.2.2.2.2.2.2.2.2 :: []) :: [])) (RR (y.1, y.2.1, y.2.2.2.1, y.2.2.2.2.1, y.2.2.2.2.2.2.1,
    y.2.2.2.2.2.2.2.1, y.2.2.2.2.2.2.2.2.1, y.2.2.2.2.2.2.2.2.2)))))))))))))))))))) (eqDr l (needr (AV.vsl 0 0 1 1) (eqDr lent (eqIr n (eqIr i (needr (AV.fn (Fn.func
    16) ([]) (AV.vptr [] (AV.view [] CodeT to :: []) :: AV.vptr [] (AV.int IntKind.i64 f :: []) :: [])) (EE0 (l, lent, n, i, @List.nil (den CodeT), false, to, f))))))))) := by kernel_rfl
theorem body_onces_tu_ok : ∀ x y, Pre_onces_tu x → Inv_onces_tu x y → wfS (sh_onces_tu y) → Hd (awp tab fs_alive (acall tab fs_alive specs_rules fns 100 20) [(6, S_once_tu)] 100 (loopAt Try.f14 3) (bodyN sh_onces_tu sx_onces_tu nx_onces_tu (Inv_onces_tu x) (M_onces_tu x) (M_onces_tu x y) (D_onces_tu x)) (sh_onces_tu y)) := by
  rintro ⟨l0, lent0, n0, i0, r40, r50, to0, f0⟩ ⟨l, lent, n, i, r4, r5, to, f⟩ hp hI hw
  obtain ⟨⟨rfl, rfl, rfl, rfl, rfl⟩, hI⟩ := hI
  have hw_l := wfL_view hw 0 rfl
  have hw_lent := wfL_view hw 6 rfl
  have hw_n := wfL_int hw 16 rfl
  have hw_i := wfL_int hw 17 rfl
  have hp : i0 = 0 ∧ n = lenI l ∧ lent = l ∧ smallC l ∧ shortL to := hp
  unfold D_onces_tu
  rw [body_onces_tu]
  refine ⟨?_⟩
  have hInv : ∀ (i : Int) (r4 : List (den CodeT)) (r5 : Bool), ((0 ≤ i ∧ i ≤ n) ∧ fromE [(.tu to f)] l i) → Inv_onces_tu (l, lent, n, i0, r40, r50, to, f) (l, lent, n, i, r4, r5, to, f) := fun _ _ _ h => ⟨⟨rfl, rfl, rfl, rfl, rfl⟩, h⟩
  generalize hIe : Inv_onces_tu (l, lent, n, i0, r40, r50, to, f) = Inv at hInv ⊢
  have hMe : ∀ (i : Int) (r4 : List (den CodeT)) (r5 : Bool), M_onces_tu (l, lent, n, i0, r40, r50, to, f) (l, lent, n, i, r4, r5, to, f) = (n - i).toNat := fun _ _ _ => rfl
  generalize M_onces_tu (l, lent, n, i0, r40, r50, to, f) = Me at hMe ⊢
  have hE0 : ∀ (i : Int) (r4 : List (den CodeT)) (r5 : Bool), (onceB [(.tu to f)] l = false ∧ onceL [(.tu to f)] l = l) → E0_onces_tu (l, lent, n, i0, r40, r50, to, f) (l, lent, n, i, r4, r5, to, f) := fun _ _ _ h => ⟨⟨rfl, rfl, rfl, rfl, rfl⟩, h⟩
  generalize E0_onces_tu (l, lent, n, i0, r40, r50, to, f) = EE0 at hE0 ⊢
  have hR : ∀ (i : Int) (r4 : List (den CodeT)) (r5 : Bool), (onceB [(.tu to f)] l = true ∧ r4 = onceL [(.tu to f)] l ∧ r5 = true) → R_onces_tu (l, lent, n, i0, r40, r50, to, f) (l, lent, n, i, r4, r5, to, f) := fun _ _ _ h => ⟨⟨rfl, rfl, rfl, rfl, rfl⟩, h⟩
  generalize R_onces_tu (l, lent, n, i0, r40, r50, to, f) = RR at hR ⊢
  obtain ⟨hi, hI⟩ := hI
  obtain ⟨p1, rfl, hll, hsm, hto⟩ := hp
  have hll := hll.symm
  subst hll
  have hlen := wfT_len hw_l
  by_cases hlt : i < lenI l
  · have ei : addW .i64 i 1 = i + 1 := addW64 (by omega) (by omega)
    rw [ltB_t.2 hlt]
    simp only [ifB_def, eqI_def, eqL_def, eqD_def, need_def, true_and, and_true, reduceCtorEq, false_implies, true_implies]
    refine ⟨⟨⟨hi.1, hlt⟩, hsm, hto⟩, ?_, ?_⟩
    · rintro ⟨l', lent', i', n', i2', j', r4', r5', to', f'⟩ ⟨hk, hb⟩
      dsimp only at hk hb ⊢
      obtain ⟨rfl, rfl, rfl, rfl, hii, rfl, rfl⟩ := hk
      subst hii
      rw [ei]
      exact ⟨hInv _ _ _ ⟨⟨by omega, by omega⟩, from_next hi.1 hlt hI hb⟩, by simp only [hMe]; omega⟩
    · rintro ⟨l', lent', i', n', i2', j', r4', r5', to', f'⟩ ⟨hk, hb, hr4, hr5⟩
      dsimp only at hk hb hr4 hr5 ⊢
      obtain ⟨rfl, rfl, rfl, rfl, hii, rfl, rfl⟩ := hk
      subst hii
      have hs := from_some hi.1 hlt hI hb
      exact hR _ _ _ ⟨hs.1, hr4.trans hs.2.symm, hr5⟩
  · rw [ltB_f.2 (Int.not_lt.1 hlt)]
    have he := from_end (by omega) hI
    simp only [simpsL, implies_true, forall_const, if_true, if_false, reduceCtorEq]
    exact hE0 _ _ _ he
theorem lok_onces_tu : LoopsOK Try.prog [(6, S_once_tu)] (loopAt Try.f14 3) := loopsOK_at (by kernel_rfl) fun k S h => by
  simp only [List.mem_cons, Prod.mk.injEq, List.not_mem_nil, or_false] at h
  obtain ⟨rfl, rfl⟩ := h
  exact (by kernel_rfl : findLoop (loopsOf (loopAt Try.f14 3)) 6 = loopAt Try.f14 6) ▸ summ_once_tu
theorem summ_onces_tu : SummOK Try.prog (loopAt Try.f14 3) S_onces_tu :=
  summN_ok (L := [(6, S_once_tu)]) (fuel := 100) tabOK fsOK_alive (mkCall fsOK_alive specsOK_rules fnsOK) (fun C => mkDraw fsOK_alive (mkCall fsOK_alive specsOK_rules fnsOK) C) lok_onces_tu Inv_onces_tu M_onces_tu
    (fun x hp hw => by
      obtain ⟨l, lent, n, i, r4, r5, to, f⟩ := x
      have hp : i = 0 ∧ n = lenI l ∧ lent = l ∧ smallC l ∧ shortL to := hp
      have hw_l := wfL_view hw 0 rfl
      have hw_lent := wfL_view hw 6 rfl
      have hw_n := wfL_int hw 16 rfl
      have hw_i := wfL_int hw 17 rfl
      obtain ⟨rfl, rfl, rfl, _⟩ := hp
      exact ⟨⟨rfl, rfl, rfl, rfl, rfl⟩, ⟨by omega, lenI_nn _⟩, from_zero⟩)
    (body_onces_tu_ok)
noncomputable def fns_onceq_tu : Fns := (14, Try.f14, [(3, S_onces_tu)]) :: fns
theorem fn_onceq_tu : FnOK Try.prog 14 Try.f14 [(3, S_onces_tu)] := fnOK_loops Try.func14 (fun vs w => Try.call14 vs w) (by kernel_rfl) fun k S h => by
  simp only [List.mem_cons, Prod.mk.injEq, List.not_mem_nil, or_false] at h
  obtain ⟨rfl, rfl⟩ := h
  exact summ_onces_tu
theorem fns_onceq_tuOK : FnsOK Try.prog fns_onceq_tu := fnsOK_cons fn_onceq_tu fnsOK
noncomputable def onceq_tuS : List AV → List Blk → AK → Prop := fun args m K => match args, m with | [.view [] (.prod (.int .i64) (.prod (.int .i64) (.prod (.int .i64) (.int .i64)))) l, .vsl 0 0 1 1], [.var [.fn (.func 16) [] [.vptr [] [.view [] (.prod (.int .i64) (.prod (.int .i64) (.prod (.int .i64) (.int .i64)))) to], .vptr [] [.int .i64 f]]]] => need (smallC l) (need (shortL to) (K (.ret (.tup [.view [] CodeT (onceL [(.tu to f)] l), .bool (onceB [(.tu to f)] l)])) [.var [.fn (.func 16) [] [.vptr [] [.view [] CodeT to], .vptr [] [.int .i64 f]]]] [] [])) | _, _ => False
theorem onceq_tu_eq (K : AK) (l : List (den CodeT)) (to : List (den CodeT)) (f : Int) : acall tab fs_alive specs_grow fns_onceq_tu 100 20 14 [.view [] CodeT l, .vsl 0 0 1 1] [.var [.fn (.func 16) [] [.vptr [] [.view [] CodeT to], .vptr [] [.int .i64 f]]]] (frzK (mlen [.var [.fn (.func 16) [] [.vptr [] [.view [] CodeT to], .vptr [] [.int .i64 f]]]]) (.ag [.sl CodeT, .any]) [] [] K) =
  (need (fitA (lenI l)) (eqDr l (needr (AV.vsl 0 0 1 1) (eqDr l (eqIr (lenI l) (eqIr 0 (needr (AV.fn (Fn.func 16) ([]) (AV.vptr [] (AV.view [] CodeT to :: []) :: AV.vptr
    [] (AV.int IntKind.i64 f :: []) :: [])) (((0 : Int) = 0 ∧ lenI l = lenI l ∧ l = l ∧ smallC l ∧ shortL to) ∧ ((∀ (y : X_onces_tu), (y.1 = l ∧ y.2.1 = l ∧ y.2.2.1
    = lenI l ∧ y.2.2.2.2.2.2.1 = to ∧ y.2.2.2.2.2.2.2 = f) ∧ onceB (Rul.tu y.2.2.2.2.2.2.1 y.2.2.2.2.2.2.2 :: @List.nil Rul) y.1 = false ∧ onceL (Rul.tu y.2.2.2.2.2.2.1
    y.2.2.2.2.2.2.2 :: @List.nil Rul) y.1 = y.1 → K (AOut.ret (AV.tup (AV.view [] CodeT y.1 :: AV.bool false :: []))) (Blk.var (AV.fn (Fn.func 16) ([]) (AV.vptr [] (AV.view
    [] CodeT y.2.2.2.2.2.2.1 :: []) :: AV.vptr [] (AV.int IntKind.i64 y.2.2.2.2.2.2.2 :: []) :: []) :: []) :: []) [] []) ∧ True) ∧ ∀ (y : X_onces_tu), (y.1 = l ∧ y.2.1
    = l ∧ y.2.2.1 = lenI l ∧ y.2.2.2.2.2.2.1 = to ∧ y.2.2.2.2.2.2.2 = f) ∧ onceB (Rul.tu y.2.2.2.2.2.2.1 y.2.2.2.2.2.2.2 :: @List.nil Rul) y.1 = true ∧ y.2.2.2.2.1 =
    onceL (Rul.tu y.2.2.2.2.2.2.1 y.2.2.2.2.2.2.2 :: @List.nil Rul) y.1 ∧ y.2.2.2.2.2.1 = true → K (AOut.ret (AV.tup (AV.view [] CodeT y.2.2.2.2.1 :: AV.bool y.2.2.2.2.2.1
    :: []))) (Blk.var (AV.fn (Fn.func 16) ([]) (AV.vptr [] (AV.view [] CodeT y.2.2.2.2.2.2.1 :: []) :: AV.vptr [] (AV.int IntKind.i64 y.2.2.2.2.2.2.2 :: []) :: []) ::
    []) :: []) [] [])))))))) := by kernel_rfl
theorem onceq_tu_ok : SpecOK Try.prog 14 onceq_tuS := specOKF_of (mkCall fsOK_alive specsOK_grow fns_onceq_tuOK) (.ag [.sl CodeT, .any]) [] [] (fun vs w => Try.call14 vs w) fun args m K h hw hwm => by
  unfold onceq_tuS at h
  split at h
  · rename_i l to f
    rw [onceq_tu_eq]
    refine ⟨?_⟩
    simp only [wfAL, wfA, wfS, wfM, wfB, and_true, true_and, wfT_int, wfT_str, wfT_bool, wfT_prod] at hw hwm
    obtain ⟨h1, h2, h⟩ := h
    have hf : fitA (lenI l) := by unfold smallC at h1; unfold fitA; omega
    simp only [ifB_def, eqI_def, eqL_def, eqD_def, need_def, true_and, and_true, hf, h1, h2]
    refine ⟨fun y hy => ?_, fun y hy => ?_⟩
    · obtain ⟨l', lent', n', i', r4', r5', to', f'⟩ := y
      dsimp only at hy ⊢
      obtain ⟨⟨rfl, rfl, rfl, rfl, rfl⟩, hb, hl⟩ := hy
      rw [hb, hl] at h
      exact h
    · obtain ⟨l', lent', n', i', r4', r5', to', f'⟩ := y
      dsimp only at hy ⊢
      obtain ⟨⟨rfl, rfl, rfl, rfl, rfl⟩, hb, hl, hr⟩ := hy
      rw [hb] at h
      rw [hl, hr]
      exact h
  · exact h.elim
def fits_onceq_tu : List AV → List Blk → Bool := fun args m => match args, m with | [.view [] (.prod (.int .i64) (.prod (.int .i64) (.prod (.int .i64) (.int .i64)))) _, .vsl 0 0 1 1], [.var [.fn (.func 16) [] [.vptr [] [.view [] (.prod (.int .i64) (.prod (.int .i64) (.prod (.int .i64) (.int .i64)))) _], .vptr [] [.int .i64 _]]]] => true | _, _ => false
noncomputable def RW_onceq_tu : List AV → List Blk → AK → Prop := pickS fits_onceq_tu onceq_tuS once7S
theorem RWok_onceq_tu : SpecOK Try.prog 14 RW_onceq_tu := pickS_ok onceq_tu_ok once7_ok
noncomputable def SP_onceq_tu : List AV → List Blk → AK → Prop := (specV [.sl CodeT] (frameS RW_onceq_tu))
theorem SPok_onceq_tu : SpecOK Try.prog 14 SP_onceq_tu := (specV_ok (frame_ok RWok_onceq_tu))
noncomputable def specs_onceq_tu : Specs := (14, SP_onceq_tu) :: specs_rules
theorem specsOK_onceq_tu : SpecsOK Try.prog specs_onceq_tu := specsOK_cons SPok_onceq_tu specsOK_rules
abbrev X_run_tu := List (den CodeT) × Int × List (den CodeT) × Int
def sh_run_tu : X_run_tu → St := fun x => match x with | (out, i, to, f) => ⟨setL (rep .bad 23) [(5, .view [] CodeT out), (10, .int .i64 i), (1, .vsl 0 0 1 1)], [.var [.fn (.func 16) [] [.vptr [] [.view [] CodeT to], .vptr [] [.int .i64 f]]]], [], []⟩
def sx_run_tu : AExit → X_run_tu → St := fun _ => sh_run_tu
def nx_run_tu (σ : St) : X_run_tu := (gV CodeT σ 5, gI σ 10, mcapV CodeT σ 0 0 0, mcapI σ 0 0 1)
def Pre_run_tu : X_run_tu → Prop := fun x => match x with | (out, i, to, f) => i = 0 ∧ smallC out ∧ shortL to
def E0_run_tu : X_run_tu → X_run_tu → Prop := fun x y => match x, y with | (out0, i0, to0, f0), (out, i, to, f) => (to = to0 ∧ f = f0) ∧ (out = runE [(.tu to f)] out0)
def R_run_tu : X_run_tu → X_run_tu → Prop := fun x y => match x, y with | (out0, i0, to0, f0), (out, i, to, f) => (to = to0 ∧ f = f0) ∧ (False)
def D_run_tu : X_run_tu → LEnds X_run_tu := fun x => ⟨[(0, E0_run_tu x)], R_run_tu x⟩
noncomputable def S_run_tu : Summ := summN sh_run_tu sx_run_tu nx_run_tu Pre_run_tu D_run_tu
def Inv_run_tu : X_run_tu → X_run_tu → Prop := fun x y => match x, y with | (out0, i0, to0, f0), (out, i, to, f) => (to = to0 ∧ f = f0) ∧ ((0 ≤ i ∧ i ≤ 1000) ∧ out = runL [(.tu to f)] out0 i.toNat ∧ smallC out)
def M_run_tu : X_run_tu → X_run_tu → Nat := fun x y => match x, y with | (out0, i0, to0, f0), (out, i, to, f) => (1000 - i).toNat
theorem body_run_tu (Inv : X_run_tu → Prop) (meas : X_run_tu → Nat) (nn : Nat) (EE0 RR : X_run_tu → Prop) (out : List (den CodeT)) (i : Int) (to : List (den CodeT)) (f : Int) : awp tab fs_alive (acall tab fs_alive specs_onceq_tu fns 100 20) [] 100 (loopAt Try.f7 3) (bodyN sh_run_tu sx_run_tu nx_run_tu Inv meas nn ⟨[(0, EE0)], RR⟩) (sh_run_tu (out, i, to, f)) =
  (ifB (ltB i 1000) (need (smallC out) (need (shortL to) (ifB (notB (onceB (Rul.tu to f :: @List.nil Rul) out)) (needr (AV.vsl 0 0 1 1) (eqDr out (eqIr i (needr (AV.fn
    (Fn.func 16) ([]) (AV.vptr [] (AV.view [] CodeT to :: []) :: AV.vptr [] (AV.int IntKind.i64 f :: []) :: [])) (EE0 (out, i, to, f)))))) (needr (AV.vsl 0 0 1 1) (eqDr
    (onceL (Rul.tu to f :: @List.nil Rul) out) (eqIr (addW IntKind.i64 i 1) (needr (AV.fn (Fn.func 16) ([]) (AV.vptr [] (AV.view [] CodeT to :: []) :: AV.vptr [] (AV.int
    IntKind.i64 f :: []) :: [])) (Inv (onceL (Rul.tu to f :: @List.nil Rul) out, addW IntKind.i64 i 1, to, f) ∧ meas (onceL (Rul.tu to f :: @List.nil Rul) out, addW
    IntKind.i64 i 1, to, f) < nn)))))))) (needr (AV.vsl 0 0 1 1) (eqDr out (eqIr i (needr (AV.fn (Fn.func 16) ([]) (AV.vptr [] (AV.view [] CodeT to :: []) :: AV.vptr
    [] (AV.int IntKind.i64 f :: []) :: [])) (EE0 (out, i, to, f))))))) := by kernel_rfl
theorem body_run_tu_ok : ∀ x y, Pre_run_tu x → Inv_run_tu x y → wfS (sh_run_tu y) → Hd (awp tab fs_alive (acall tab fs_alive specs_onceq_tu fns 100 20) [] 100 (loopAt Try.f7 3) (bodyN sh_run_tu sx_run_tu nx_run_tu (Inv_run_tu x) (M_run_tu x) (M_run_tu x y) (D_run_tu x)) (sh_run_tu y)) := by
  rintro ⟨out0, i0, to0, f0⟩ ⟨out, i, to, f⟩ hp hI hw
  obtain ⟨⟨rfl, rfl⟩, hI⟩ := hI
  have hw_out := wfL_view hw 5 rfl
  have hw_i := wfL_int hw 10 rfl
  have hp : i0 = 0 ∧ smallC out0 ∧ shortL to := hp
  unfold D_run_tu
  rw [body_run_tu]
  refine ⟨?_⟩
  have hInv : ∀ (out : List (den CodeT)) (i : Int), ((0 ≤ i ∧ i ≤ 1000) ∧ out = runL [(.tu to f)] out0 i.toNat ∧ smallC out) → Inv_run_tu (out0, i0, to, f) (out, i, to, f) := fun _ _ h => ⟨⟨rfl, rfl⟩, h⟩
  generalize hIe : Inv_run_tu (out0, i0, to, f) = Inv at hInv ⊢
  have hMe : ∀ (out : List (den CodeT)) (i : Int), M_run_tu (out0, i0, to, f) (out, i, to, f) = (1000 - i).toNat := fun _ _ => rfl
  generalize M_run_tu (out0, i0, to, f) = Me at hMe ⊢
  have hE0 : ∀ (out : List (den CodeT)) (i : Int), (out = runE [(.tu to f)] out0) → E0_run_tu (out0, i0, to, f) (out, i, to, f) := fun _ _ h => ⟨⟨rfl, rfl⟩, h⟩
  generalize E0_run_tu (out0, i0, to, f) = EE0 at hE0 ⊢
  have hR : ∀ (out : List (den CodeT)) (i : Int), (False) → R_run_tu (out0, i0, to, f) (out, i, to, f) := fun _ _ h => ⟨⟨rfl, rfl⟩, h⟩
  generalize R_run_tu (out0, i0, to, f) = RR at hR ⊢
  obtain ⟨hi, hI, hsm⟩ := hI
  obtain ⟨p1, p2, hto⟩ := hp
  have hshort : ∀ r ∈ [((.tu to f) : Rul)], shortR r := fun r hr => by simp only [List.mem_cons, List.not_mem_nil, or_false] at hr; subst hr; exact hto
  by_cases hlt : i < 1000
  · have ei : addW .i64 i 1 = i + 1 := addW64 (by omega) (by omega)
    have e2 : (i + 1).toNat = i.toNat + 1 := by omega
    rw [ltB_t.2 hlt]
    simp only [ifB_def, eqI_def, eqL_def, eqD_def, need_def, true_and, and_true, reduceCtorEq, false_implies, true_implies, hsm, hto, ei, notB_def, Bool.not_eq_true', Bool.not_eq_false', hMe]
    refine ⟨fun hb => hE0 _ _ ?_, fun hb => ⟨hInv _ _ ⟨⟨by omega, by omega⟩, ?_, ?_⟩, by omega⟩⟩
    · have := run_stop (ks := [(.tu to f)]) (l := out0) (n := i.toNat) (by rw [← hI]; exact hb) (1000 - i.toNat)
      have e3 : i.toNat + (1000 - i.toNat) = 1000 := by omega
      rw [e3, ← hI] at this
      exact this.symm
    · rw [e2, run_succ, ← hI, hb]; rfl
    · have := once_len hshort hb; unfold smallC at *; omega
  · have e : i = 1000 := by omega
    subst e
    rw [ltB_f.2 (by omega)]
    simp only [simpsL, implies_true, forall_const, if_true, if_false, reduceCtorEq]
    exact hE0 _ _ hI
theorem summ_run_tu : SummOK Try.prog (loopAt Try.f7 3) S_run_tu :=
  summN_ok (L := []) (fuel := 100) tabOK fsOK_alive (mkCall fsOK_alive specsOK_onceq_tu fnsOK) (fun C => mkDraw fsOK_alive (mkCall fsOK_alive specsOK_onceq_tu fnsOK) C) loopsOK_nil Inv_run_tu M_run_tu
    (fun x hp hw => by
      obtain ⟨out, i, to, f⟩ := x
      have hp : i = 0 ∧ smallC out ∧ shortL to := hp
      have hw_out := wfL_view hw 5 rfl
      have hw_i := wfL_int hw 10 rfl
      obtain ⟨rfl, h, _⟩ := hp
      exact ⟨⟨rfl, rfl⟩, ⟨by omega, by omega⟩, rfl, h⟩)
    (body_run_tu_ok)
noncomputable def fns_runq_tu : Fns := (7, Try.f7, [(3, S_run_tu)]) :: fns
theorem fn_runq_tu : FnOK Try.prog 7 Try.f7 [(3, S_run_tu)] := fnOK_loops Try.func7 (fun vs w => Try.call7 vs w) (by kernel_rfl) fun k S h => by
  simp only [List.mem_cons, Prod.mk.injEq, List.not_mem_nil, or_false] at h
  obtain ⟨rfl, rfl⟩ := h
  exact summ_run_tu
theorem fns_runq_tuOK : FnsOK Try.prog fns_runq_tu := fnsOK_cons fn_runq_tu fnsOK
noncomputable def runq_tuS : List AV → List Blk → AK → Prop := fun args m K => match args, m with | [.view [] (.prod (.int .i64) (.prod (.int .i64) (.prod (.int .i64) (.int .i64)))) l, .vsl 0 0 1 1], [.var [.fn (.func 16) [] [.vptr [] [.view [] (.prod (.int .i64) (.prod (.int .i64) (.prod (.int .i64) (.int .i64)))) to], .vptr [] [.int .i64 f]]]] => need (smallC l) (need (shortL to) (K (.ret (.view [] CodeT (runE [(.tu to f)] l))) [.var [.fn (.func 16) [] [.vptr [] [.view [] CodeT to], .vptr [] [.int .i64 f]]]] [] [])) | _, _ => False
theorem runq_tu_eq (K : AK) (l : List (den CodeT)) (to : List (den CodeT)) (f : Int) : acall tab fs_alive specs_once7 fns_runq_tu 100 20 7 [.view [] CodeT l, .vsl 0 0 1 1] [.var [.fn (.func 16) [] [.vptr [] [.view [] CodeT to], .vptr [] [.int .i64 f]]]] (frzK (mlen [.var [.fn (.func 16) [] [.vptr [] [.view [] CodeT to], .vptr [] [.int .i64 f]]]]) (.sl CodeT) [] [] K) =
  (need (fitA (lenI l)) (needr (AV.vsl 0 0 1 1) (eqDr l (eqIr 0 (needr (AV.fn (Fn.func 16) ([]) (AV.vptr [] (AV.view [] CodeT to :: []) :: AV.vptr [] (AV.int IntKind.i64
    f :: []) :: [])) (((0 : Int) = 0 ∧ smallC l ∧ shortL to) ∧ ((∀ (y : X_run_tu), (y.2.2.1 = to ∧ y.2.2.2 = f) ∧ y.1 = runE (Rul.tu y.2.2.1 y.2.2.2 :: @List.nil Rul)
    l → K (AOut.ret (AV.view [] CodeT y.1)) (Blk.var (AV.fn (Fn.func 16) ([]) (AV.vptr [] (AV.view [] CodeT y.2.2.1 :: []) :: AV.vptr [] (AV.int IntKind.i64 y.2.2.2
    :: []) :: []) :: []) :: []) [] []) ∧ True) ∧ ∀ (y : X_run_tu), (y.2.2.1 = to ∧ y.2.2.2 = f) ∧ False → K (AOut.ret AV.bad) (Blk.var (AV.fn (Fn.func 16) ([]) (AV.vptr
    [] (AV.view [] CodeT y.2.2.1 :: []) :: AV.vptr [] (AV.int IntKind.i64 y.2.2.2 :: []) :: []) :: []) :: []) [] [])))))) := by kernel_rfl
theorem runq_tu_ok : SpecOK Try.prog 7 runq_tuS := specOKF_of (mkCall fsOK_alive specsOK_once7 fns_runq_tuOK) (.sl CodeT) [] [] (fun vs w => Try.call7 vs w) fun args m K h hw hwm => by
  unfold runq_tuS at h
  split at h
  · rename_i l to f
    rw [runq_tu_eq]
    refine ⟨?_⟩
    simp only [wfAL, wfA, wfS, wfM, wfB, and_true, true_and, wfT_int, wfT_str, wfT_bool, wfT_prod] at hw hwm
    obtain ⟨h1, h2, h⟩ := h
    have hf : fitA (lenI l) := by unfold smallC at h1; unfold fitA; omega
    simp only [ifB_def, eqI_def, eqL_def, eqD_def, need_def, true_and, and_true, hf, h1, h2]
    refine ⟨fun y hy => ?_, fun y hy => hy.2.elim⟩
    obtain ⟨out', i', to', f'⟩ := y
    dsimp only at hy ⊢
    obtain ⟨⟨h3, h4⟩, h5⟩ := hy
    subst h3 h4
    rw [h5]
    exact h
  · exact h.elim
def fits_runq_tu : List AV → List Blk → Bool := fun args m => match args, m with | [.view [] (.prod (.int .i64) (.prod (.int .i64) (.prod (.int .i64) (.int .i64)))) _, .vsl 0 0 1 1], [.var [.fn (.func 16) [] [.vptr [] [.view [] (.prod (.int .i64) (.prod (.int .i64) (.prod (.int .i64) (.int .i64)))) _], .vptr [] [.int .i64 _]]]] => true | _, _ => false
noncomputable def RW_runq_tu : List AV → List Blk → AK → Prop := pickS fits_runq_tu runq_tuS run7S
theorem RWok_runq_tu : SpecOK Try.prog 7 RW_runq_tu := pickS_ok runq_tu_ok run7_ok
noncomputable def SP_runq_tu : List AV → List Blk → AK → Prop := (specV [.sl CodeT] (frameS RW_runq_tu))
theorem SPok_runq_tu : SpecOK Try.prog 7 SP_runq_tu := (specV_ok (frame_ok RWok_runq_tu))
noncomputable def specs_runq_tu : Specs := (7, SP_runq_tu) :: specs_onceq_tu
theorem specsOK_runq_tu : SpecsOK Try.prog specs_runq_tu := specsOK_cons SPok_runq_tu specsOK_onceq_tu
abbrev X_once_tw := List (den CodeT) × List (den CodeT) × Int × Int × Int × Int × List (den CodeT) × Bool × Bool
def sh_once_tw : X_once_tw → St := fun x => match x with | (l, lent, i, n, i2, j, r4, r5, b) => ⟨setL (rep .bad 63) [(0, .view [] CodeT l), (6, .view [] CodeT lent), (7, .int .i64 i), (16, .int .i64 n), (17, .int .i64 i2), (22, .int .i64 j), (1, .vsl 0 0 1 1), (20, .vsl 0 0 1 1), (21, .int .i64 1)], [.var [.fn (.func 18) [] [.vptr [] [.bool b]]]], [], []⟩
def shr_once_tw : X_once_tw → St := fun x => match x with | (l, lent, i, n, i2, j, r4, r5, b) => ⟨setL (rep .bad 63) [(0, .view [] CodeT l), (6, .view [] CodeT lent), (7, .int .i64 i), (16, .int .i64 n), (17, .int .i64 i2), (22, .int .i64 j), (4, .view [] CodeT r4), (5, .bool r5), (1, .vsl 0 0 1 1), (20, .vsl 0 0 1 1), (21, .int .i64 1)], [.var [.fn (.func 18) [] [.vptr [] [.bool b]]]], [], []⟩
def sx_once_tw : AExit → X_once_tw → St := fun e => match e with | .ret => shr_once_tw | _ => sh_once_tw
def nx_once_tw (σ : St) : X_once_tw := (gV CodeT σ 0, gV CodeT σ 6, gI σ 7, gI σ 16, gI σ 17, gI σ 22, gV CodeT σ 4, gB σ 5, mcapB σ 0 0 0)
def Pre_once_tw : X_once_tw → Prop := fun x => match x with | (l, lent, i, n, i2, j, r4, r5, b) => ((j = 0)) ∧ (inI i (lenI l) ∧ lent = l ∧ smallC l ∧ True)
def E2_once_tw : X_once_tw → X_once_tw → Prop := fun x y => match x, y with | (l0, lent0, i0, n0, i20, j0, r40, r50, b0), (l, lent, i, n, i2, j, r4, r5, b) => (l = l0 ∧ lent = lent0 ∧ i = i0 ∧ n = n0 ∧ i2 = i20 ∧ b = b0) ∧ (pickB [(.tw b)] l i = false)
def R_once_tw : X_once_tw → X_once_tw → Prop := fun x y => match x, y with | (l0, lent0, i0, n0, i20, j0, r40, r50, b0), (l, lent, i, n, i2, j, r4, r5, b) => (l = l0 ∧ lent = lent0 ∧ i = i0 ∧ n = n0 ∧ i2 = i20 ∧ b = b0) ∧ (pickB [(.tw b)] l i = true ∧ r4 = pickL [(.tw b)] l i ∧ r5 = true)
def D_once_tw : X_once_tw → LEnds X_once_tw := fun x => ⟨[(2, E2_once_tw x)], R_once_tw x⟩
noncomputable def S_once_tw : Summ := summN sh_once_tw sx_once_tw nx_once_tw Pre_once_tw D_once_tw
theorem body_once_tw0 (EE2 RR : X_once_tw → Prop) (l : List (den CodeT)) (lent : List (den CodeT)) (i : Int) (n : Int) (i2 : Int) (r4 : List (den CodeT)) (r5 : Bool) (b : Bool) : awp tab fs_alive (acall tab fs_alive specs_runq_tu fns 100 20) [] 100 (.loop (loopAt Try.f14 6)) (bodyN sh_once_tw sx_once_tw nx_once_tw (fun _ => False) (fun _ => 0) 0 ⟨[(2, EE2)], RR⟩) (sh_once_tw (l, lent, i, n, i2, 0, r4, r5, b)) =
  (ifB (selB (selB (twinsC b lent i) (leB 1 (twinsN b lent i)) false) (leB (twinsN b lent i) (subW IntKind.i64 (lenI l) i)) false) (need (leI 0 0) (need (leI 0 i) (need
    (leI i (lenI l)) (need (leI 0 (addW IntKind.i64 i (twinsN b lent i))) (need (leI (addW IntKind.i64 i (twinsN b lent i)) (lenI l)) (need (leI (lenI l) (lenI l)) (need
    (leI (sumC (subL l 0 i :: twinsL b lent i :: subL l (addW IntKind.i64 i (twinsN b lent i)) (lenI l) :: @List.nil (den CodeT.list))) 1000000) (eqDr l (needr (AV.vsl
    0 0 1 1) (eqDr (joinC (subL l 0 i :: twinsL b lent i :: subL l (addW IntKind.i64 i (twinsN b lent i)) (lenI l) :: @List.nil (den CodeT.list))) (eqLr true (eqDr lent
    (eqIr i (eqIr n (eqIr i2 (needr (AV.vsl 0 0 1 1) (eqIr 1 (eqIr 0 (needr (AV.fn (Fn.func 18) ([]) (AV.vptr [] (AV.bool b :: []) :: [])) (RR (l, lent, i, n, i2, 0,
    joinC (subL l 0 i :: twinsL b lent i :: subL l (addW IntKind.i64 i (twinsN b lent i)) (lenI l) :: @List.nil (den CodeT.list)), true, b))))))))))))))))))))) (eqDr
    l (needr (AV.vsl 0 0 1 1) (eqDr lent (eqIr i (eqIr n (eqIr i2 (needr (AV.vsl 0 0 1 1) (eqIr 1 (eqIr 1 (needr (AV.fn (Fn.func 18) ([]) (AV.vptr [] (AV.bool b :: [])
    :: [])) (EE2 (l, lent, i, n, i2, 1, @List.nil (den CodeT), false, b))))))))))))) := by kernel_rfl
theorem body_once_tw_ok : ∀ x, Pre_once_tw x → wfS (sh_once_tw x) → Hd (awp tab fs_alive (acall tab fs_alive specs_runq_tu fns 100 20) [] 100 (.loop (loopAt Try.f14 6)) (bodyN sh_once_tw sx_once_tw nx_once_tw (fun _ => False) (fun _ => 0) 0 (D_once_tw x)) (sh_once_tw x)) := by
  rintro ⟨l0, lent0, i0, n0, i20, j0, r40, r50, b0⟩ hp hw
  obtain ⟨hc, hp⟩ := hp
  have hp : inI i0 (lenI l0) ∧ lent0 = l0 ∧ smallC l0 ∧ True := hp
  unfold D_once_tw
  have hE2 : ∀ (j : Int) (r4 : List (den CodeT)) (r5 : Bool), (pickB [(.tw b0)] l0 i0 = false) → E2_once_tw (l0, lent0, i0, n0, i20, j0, r40, r50, b0) (l0, lent0, i0, n0, i20, j, r4, r5, b0) := fun _ _ _ h => ⟨⟨rfl, rfl, rfl, rfl, rfl, rfl⟩, h⟩
  generalize E2_once_tw (l0, lent0, i0, n0, i20, j0, r40, r50, b0) = EE2 at hE2 ⊢
  have hR : ∀ (j : Int) (r4 : List (den CodeT)) (r5 : Bool), (pickB [(.tw b0)] l0 i0 = true ∧ r4 = pickL [(.tw b0)] l0 i0 ∧ r5 = true) → R_once_tw (l0, lent0, i0, n0, i20, j0, r40, r50, b0) (l0, lent0, i0, n0, i20, j, r4, r5, b0) := fun _ _ _ h => ⟨⟨rfl, rfl, rfl, rfl, rfl, rfl⟩, h⟩
  generalize R_once_tw (l0, lent0, i0, n0, i20, j0, r40, r50, b0) = RR at hR ⊢
  rcases hc with rfl
  · rw [body_once_tw0]
    refine ⟨?_⟩
    obtain ⟨⟨hi0, hi1⟩, hll, hsm, hto⟩ := hp
    have hll := hll.symm
    subst hll
    unfold smallC at hsm
    have hs : subW .i64 (lenI l0) i0 = lenI l0 - i0 := subW64 (by omega) (by omega)
    have c0 := good_tw (b := b0) (l := l0) (i := i0) hs
    rw [c0]
    clear c0
    rw [ifB_def]
    refine ⟨fun g0 => ?_, fun g0 => ?_⟩
    · have hq := put_ok (r := (.tw b0)) hi0 hi1 hsm tw_le g0
      obtain ⟨q1, q2, q3, q4, q5, q6, q7, q8⟩ := hq
      have hpb := pickB_some (pick_one g0)
      refine ⟨q1, q2, q3, q4, q5, q6, q7, ?_⟩
      simp only [eqI_def, eqL_def, eqD_def, need_def, true_and, and_true]
      exact hR _ _ _ ⟨hpb.1, q8.trans hpb.2.symm, rfl⟩
    · have hpk := pick_no g0
      simp only [eqI_def, eqL_def, eqD_def, need_def, true_and, and_true]
      exact hE2 _ _ _ (pickB_none hpk)
theorem summ_once_tw : SummOK Try.prog (loopAt Try.f14 6) S_once_tw :=
  summW_ok (L := []) (fuel := 100) tabOK fsOK_alive (mkCall fsOK_alive specsOK_runq_tu fnsOK) (fun C => mkDraw fsOK_alive (mkCall fsOK_alive specsOK_runq_tu fnsOK) C) loopsOK_nil body_once_tw_ok
abbrev X_onces_tw := List (den CodeT) × List (den CodeT) × Int × Int × List (den CodeT) × Bool × Bool
def sh_onces_tw : X_onces_tw → St := fun x => match x with | (l, lent, n, i, r4, r5, b) => ⟨setL (rep .bad 63) [(0, .view [] CodeT l), (6, .view [] CodeT lent), (16, .int .i64 n), (17, .int .i64 i), (1, .vsl 0 0 1 1)], [.var [.fn (.func 18) [] [.vptr [] [.bool b]]]], [], []⟩
def shr_onces_tw : X_onces_tw → St := fun x => match x with | (l, lent, n, i, r4, r5, b) => ⟨setL (rep .bad 63) [(0, .view [] CodeT l), (6, .view [] CodeT lent), (16, .int .i64 n), (17, .int .i64 i), (4, .view [] CodeT r4), (5, .bool r5), (1, .vsl 0 0 1 1)], [.var [.fn (.func 18) [] [.vptr [] [.bool b]]]], [], []⟩
def sx_onces_tw : AExit → X_onces_tw → St := fun e => match e with | .ret => shr_onces_tw | _ => sh_onces_tw
def nx_onces_tw (σ : St) : X_onces_tw := (gV CodeT σ 0, gV CodeT σ 6, gI σ 16, gI σ 17, gV CodeT σ 4, gB σ 5, mcapB σ 0 0 0)
def Pre_onces_tw : X_onces_tw → Prop := fun x => match x with | (l, lent, n, i, r4, r5, b) => i = 0 ∧ n = lenI l ∧ lent = l ∧ smallC l ∧ True
def E0_onces_tw : X_onces_tw → X_onces_tw → Prop := fun x y => match x, y with | (l0, lent0, n0, i0, r40, r50, b0), (l, lent, n, i, r4, r5, b) => (l = l0 ∧ lent = lent0 ∧ n = n0 ∧ b = b0) ∧ (onceB [(.tw b)] l = false ∧ onceL [(.tw b)] l = l)
def R_onces_tw : X_onces_tw → X_onces_tw → Prop := fun x y => match x, y with | (l0, lent0, n0, i0, r40, r50, b0), (l, lent, n, i, r4, r5, b) => (l = l0 ∧ lent = lent0 ∧ n = n0 ∧ b = b0) ∧ (onceB [(.tw b)] l = true ∧ r4 = onceL [(.tw b)] l ∧ r5 = true)
def D_onces_tw : X_onces_tw → LEnds X_onces_tw := fun x => ⟨[(0, E0_onces_tw x)], R_onces_tw x⟩
noncomputable def S_onces_tw : Summ := summN sh_onces_tw sx_onces_tw nx_onces_tw Pre_onces_tw D_onces_tw
def Inv_onces_tw : X_onces_tw → X_onces_tw → Prop := fun x y => match x, y with | (l0, lent0, n0, i0, r40, r50, b0), (l, lent, n, i, r4, r5, b) => (l = l0 ∧ lent = lent0 ∧ n = n0 ∧ b = b0) ∧ ((0 ≤ i ∧ i ≤ n) ∧ fromE [(.tw b)] l i)
def M_onces_tw : X_onces_tw → X_onces_tw → Nat := fun x y => match x, y with | (l0, lent0, n0, i0, r40, r50, b0), (l, lent, n, i, r4, r5, b) => (n - i).toNat
theorem body_onces_tw (Inv : X_onces_tw → Prop) (meas : X_onces_tw → Nat) (nn : Nat) (EE0 RR : X_onces_tw → Prop) (l : List (den CodeT)) (lent : List (den CodeT)) (n : Int) (i : Int) (r4 : List (den CodeT)) (r5 : Bool) (b : Bool) : awp tab fs_alive (acall tab fs_alive specs_runq_tu fns 100 20) [(6, S_once_tw)] 100 (loopAt Try.f14 3) (bodyN sh_onces_tw sx_onces_tw nx_onces_tw Inv meas nn ⟨[(0, EE0)], RR⟩) (sh_onces_tw (l, lent, n, i, r4, r5, b)) =
  (ifB (ltB i n) (eqDr l (needr (AV.vsl 0 0 1 1) (eqDr lent (eqIr i (eqIr n (eqIr i (needr (AV.vsl 0 0 1 1) (eqIr 1 (eqIr 0 (needr (AV.fn (Fn.func 18) ([]) (AV.vptr
    [] (AV.bool b :: []) :: [])) (((0 : Int) = 0 ∧ inI i (lenI l) ∧ lent = l ∧ smallC l ∧ True) ∧ ((∀ (y : X_once_tw), (y.1 = l ∧ y.2.1 = lent ∧ y.2.2.1 = i ∧ y.2.2.2.1
    = n ∧ y.2.2.2.2.1 = i ∧ y.2.2.2.2.2.2.2.2 = b) ∧ pickB (Rul.tw y.2.2.2.2.2.2.2.2 :: @List.nil Rul) y.1 y.2.2.1 = false → eqDr y.1 (needr (AV.vsl 0 0 1 1) (eqDr y.2.1
    (eqIr y.2.2.2.1 (eqIr (addW IntKind.i64 y.2.2.2.2.1 1) (needr (AV.fn (Fn.func 18) ([]) (AV.vptr [] (AV.bool y.2.2.2.2.2.2.2.2 :: []) :: [])) (Inv (y.1, y.2.1, y.2.2.2.1,
    addW IntKind.i64 y.2.2.2.2.1 1, @List.nil (den CodeT), false, y.2.2.2.2.2.2.2.2) ∧ meas (y.1, y.2.1, y.2.2.2.1, addW IntKind.i64 y.2.2.2.2.1 1, @List.nil (den CodeT),
    false, y.2.2.2.2.2.2.2.2) < nn))))))) ∧ True) ∧ ∀ (y : X_once_tw), (y.1 = l ∧ y.2.1 = lent ∧ y.2.2.1 = i ∧ y.2.2.2.1 = n ∧ y.2.2.2.2.1 = i ∧ y.2.2.2.2.2.2.2.2 =
    b) ∧ pickB (Rul.tw y.2.2.2.2.2.2.2.2 :: @List.nil Rul) y.1 y.2.2.1 = true ∧ y.2.2.2.2.2.2.1 = pickL (Rul.tw y.2.2.2.2.2.2.2.2 :: @List.nil Rul) y.1 y.2.2.1 ∧ y.2.2.2.2.2.2.2.1
    = true → eqDr y.1 (needr (AV.vsl 0 0 1 1) (eqDr y.2.2.2.2.2.2.1 (eqLr y.2.2.2.2.2.2.2.1 (eqDr y.2.1 (eqIr y.2.2.2.1 (eqIr y.2.2.2.2.1 (needr (AV.fn (Fn.func 18)
    ([]) (AV.vptr [] (AV.bool y.2.2.2.2.2.2.2.2 :: []) :: [])) (RR (y.1, y.2.1, y.2.2.2.1, y.2.2.2.2.1, y.2.2.2.2.2.2.1, y.2.2.2.2.2.2.2.1, y.2.2.2.2.2.2.2.2))))))))))))))))))))
    (eqDr l (needr (AV.vsl 0 0 1 1) (eqDr lent (eqIr n (eqIr i (needr (AV.fn (Fn.func 18) ([]) (AV.vptr [] (AV.bool b :: []) :: [])) (EE0 (l, lent, n, i, @List.nil (den
    CodeT), false, b))))))))) := by kernel_rfl
theorem body_onces_tw_ok : ∀ x y, Pre_onces_tw x → Inv_onces_tw x y → wfS (sh_onces_tw y) → Hd (awp tab fs_alive (acall tab fs_alive specs_runq_tu fns 100 20) [(6, S_once_tw)] 100 (loopAt Try.f14 3) (bodyN sh_onces_tw sx_onces_tw nx_onces_tw (Inv_onces_tw x) (M_onces_tw x) (M_onces_tw x y) (D_onces_tw x)) (sh_onces_tw y)) := by
  rintro ⟨l0, lent0, n0, i0, r40, r50, b0⟩ ⟨l, lent, n, i, r4, r5, b⟩ hp hI hw
  obtain ⟨⟨rfl, rfl, rfl, rfl⟩, hI⟩ := hI
  have hw_l := wfL_view hw 0 rfl
  have hw_lent := wfL_view hw 6 rfl
  have hw_n := wfL_int hw 16 rfl
  have hw_i := wfL_int hw 17 rfl
  have hp : i0 = 0 ∧ n = lenI l ∧ lent = l ∧ smallC l ∧ True := hp
  unfold D_onces_tw
  rw [body_onces_tw]
  refine ⟨?_⟩
  have hInv : ∀ (i : Int) (r4 : List (den CodeT)) (r5 : Bool), ((0 ≤ i ∧ i ≤ n) ∧ fromE [(.tw b)] l i) → Inv_onces_tw (l, lent, n, i0, r40, r50, b) (l, lent, n, i, r4, r5, b) := fun _ _ _ h => ⟨⟨rfl, rfl, rfl, rfl⟩, h⟩
  generalize hIe : Inv_onces_tw (l, lent, n, i0, r40, r50, b) = Inv at hInv ⊢
  have hMe : ∀ (i : Int) (r4 : List (den CodeT)) (r5 : Bool), M_onces_tw (l, lent, n, i0, r40, r50, b) (l, lent, n, i, r4, r5, b) = (n - i).toNat := fun _ _ _ => rfl
  generalize M_onces_tw (l, lent, n, i0, r40, r50, b) = Me at hMe ⊢
  have hE0 : ∀ (i : Int) (r4 : List (den CodeT)) (r5 : Bool), (onceB [(.tw b)] l = false ∧ onceL [(.tw b)] l = l) → E0_onces_tw (l, lent, n, i0, r40, r50, b) (l, lent, n, i, r4, r5, b) := fun _ _ _ h => ⟨⟨rfl, rfl, rfl, rfl⟩, h⟩
  generalize E0_onces_tw (l, lent, n, i0, r40, r50, b) = EE0 at hE0 ⊢
  have hR : ∀ (i : Int) (r4 : List (den CodeT)) (r5 : Bool), (onceB [(.tw b)] l = true ∧ r4 = onceL [(.tw b)] l ∧ r5 = true) → R_onces_tw (l, lent, n, i0, r40, r50, b) (l, lent, n, i, r4, r5, b) := fun _ _ _ h => ⟨⟨rfl, rfl, rfl, rfl⟩, h⟩
  generalize R_onces_tw (l, lent, n, i0, r40, r50, b) = RR at hR ⊢
  obtain ⟨hi, hI⟩ := hI
  obtain ⟨p1, rfl, hll, hsm, hto⟩ := hp
  have hll := hll.symm
  subst hll
  have hlen := wfT_len hw_l
  by_cases hlt : i < lenI l
  · have ei : addW .i64 i 1 = i + 1 := addW64 (by omega) (by omega)
    rw [ltB_t.2 hlt]
    simp only [ifB_def, eqI_def, eqL_def, eqD_def, need_def, true_and, and_true, reduceCtorEq, false_implies, true_implies]
    refine ⟨⟨⟨hi.1, hlt⟩, hsm⟩, ?_, ?_⟩
    · rintro ⟨l', lent', i', n', i2', j', r4', r5', b'⟩ ⟨hk, hb⟩
      dsimp only at hk hb ⊢
      obtain ⟨rfl, rfl, rfl, rfl, hii, rfl⟩ := hk
      subst hii
      rw [ei]
      exact ⟨hInv _ _ _ ⟨⟨by omega, by omega⟩, from_next hi.1 hlt hI hb⟩, by simp only [hMe]; omega⟩
    · rintro ⟨l', lent', i', n', i2', j', r4', r5', b'⟩ ⟨hk, hb, hr4, hr5⟩
      dsimp only at hk hb hr4 hr5 ⊢
      obtain ⟨rfl, rfl, rfl, rfl, hii, rfl⟩ := hk
      subst hii
      have hs := from_some hi.1 hlt hI hb
      exact hR _ _ _ ⟨hs.1, hr4.trans hs.2.symm, hr5⟩
  · rw [ltB_f.2 (Int.not_lt.1 hlt)]
    have he := from_end (by omega) hI
    simp only [simpsL, implies_true, forall_const, if_true, if_false, reduceCtorEq]
    exact hE0 _ _ _ he
theorem lok_onces_tw : LoopsOK Try.prog [(6, S_once_tw)] (loopAt Try.f14 3) := loopsOK_at (by kernel_rfl) fun k S h => by
  simp only [List.mem_cons, Prod.mk.injEq, List.not_mem_nil, or_false] at h
  obtain ⟨rfl, rfl⟩ := h
  exact (by kernel_rfl : findLoop (loopsOf (loopAt Try.f14 3)) 6 = loopAt Try.f14 6) ▸ summ_once_tw
theorem summ_onces_tw : SummOK Try.prog (loopAt Try.f14 3) S_onces_tw :=
  summN_ok (L := [(6, S_once_tw)]) (fuel := 100) tabOK fsOK_alive (mkCall fsOK_alive specsOK_runq_tu fnsOK) (fun C => mkDraw fsOK_alive (mkCall fsOK_alive specsOK_runq_tu fnsOK) C) lok_onces_tw Inv_onces_tw M_onces_tw
    (fun x hp hw => by
      obtain ⟨l, lent, n, i, r4, r5, b⟩ := x
      have hp : i = 0 ∧ n = lenI l ∧ lent = l ∧ smallC l ∧ True := hp
      have hw_l := wfL_view hw 0 rfl
      have hw_lent := wfL_view hw 6 rfl
      have hw_n := wfL_int hw 16 rfl
      have hw_i := wfL_int hw 17 rfl
      obtain ⟨rfl, rfl, rfl, _⟩ := hp
      exact ⟨⟨rfl, rfl, rfl, rfl⟩, ⟨by omega, lenI_nn _⟩, from_zero⟩)
    (body_onces_tw_ok)
noncomputable def fns_onceq_tw : Fns := (14, Try.f14, [(3, S_onces_tw)]) :: fns
theorem fn_onceq_tw : FnOK Try.prog 14 Try.f14 [(3, S_onces_tw)] := fnOK_loops Try.func14 (fun vs w => Try.call14 vs w) (by kernel_rfl) fun k S h => by
  simp only [List.mem_cons, Prod.mk.injEq, List.not_mem_nil, or_false] at h
  obtain ⟨rfl, rfl⟩ := h
  exact summ_onces_tw
theorem fns_onceq_twOK : FnsOK Try.prog fns_onceq_tw := fnsOK_cons fn_onceq_tw fnsOK
noncomputable def onceq_twS : List AV → List Blk → AK → Prop := fun args m K => match args, m with | [.view [] (.prod (.int .i64) (.prod (.int .i64) (.prod (.int .i64) (.int .i64)))) l, .vsl 0 0 1 1], [.var [.fn (.func 18) [] [.vptr [] [.bool b]]]] => need (smallC l) (need (True) (K (.ret (.tup [.view [] CodeT (onceL [(.tw b)] l), .bool (onceB [(.tw b)] l)])) [.var [.fn (.func 18) [] [.vptr [] [.bool b]]]] [] [])) | _, _ => False
theorem onceq_tw_eq (K : AK) (l : List (den CodeT)) (b : Bool) : acall tab fs_alive specs_grow fns_onceq_tw 100 20 14 [.view [] CodeT l, .vsl 0 0 1 1] [.var [.fn (.func 18) [] [.vptr [] [.bool b]]]] (frzK (mlen [.var [.fn (.func 18) [] [.vptr [] [.bool b]]]]) (.ag [.sl CodeT, .any]) [] [] K) =
  (need (fitA (lenI l)) (eqDr l (needr (AV.vsl 0 0 1 1) (eqDr l (eqIr (lenI l) (eqIr 0 (needr (AV.fn (Fn.func 18) ([]) (AV.vptr [] (AV.bool b :: []) :: [])) (((0 :
    Int) = 0 ∧ lenI l = lenI l ∧ l = l ∧ smallC l ∧ True) ∧ ((∀ (y : X_onces_tw), (y.1 = l ∧ y.2.1 = l ∧ y.2.2.1 = lenI l ∧ y.2.2.2.2.2.2 = b) ∧ onceB (Rul.tw y.2.2.2.2.2.2
    :: @List.nil Rul) y.1 = false ∧ onceL (Rul.tw y.2.2.2.2.2.2 :: @List.nil Rul) y.1 = y.1 → K (AOut.ret (AV.tup (AV.view [] CodeT y.1 :: AV.bool false :: []))) (Blk.var
    (AV.fn (Fn.func 18) ([]) (AV.vptr [] (AV.bool y.2.2.2.2.2.2 :: []) :: []) :: []) :: []) [] []) ∧ True) ∧ ∀ (y : X_onces_tw), (y.1 = l ∧ y.2.1 = l ∧ y.2.2.1 = lenI
    l ∧ y.2.2.2.2.2.2 = b) ∧ onceB (Rul.tw y.2.2.2.2.2.2 :: @List.nil Rul) y.1 = true ∧ y.2.2.2.2.1 = onceL (Rul.tw y.2.2.2.2.2.2 :: @List.nil Rul) y.1 ∧ y.2.2.2.2.2.1
    = true → K (AOut.ret (AV.tup (AV.view [] CodeT y.2.2.2.2.1 :: AV.bool y.2.2.2.2.2.1 :: []))) (Blk.var (AV.fn (Fn.func 18) ([]) (AV.vptr [] (AV.bool y.2.2.2.2.2.2
    :: []) :: []) :: []) :: []) [] [])))))))) := by kernel_rfl
theorem onceq_tw_ok : SpecOK Try.prog 14 onceq_twS := specOKF_of (mkCall fsOK_alive specsOK_grow fns_onceq_twOK) (.ag [.sl CodeT, .any]) [] [] (fun vs w => Try.call14 vs w) fun args m K h hw hwm => by
  unfold onceq_twS at h
  split at h
  · rename_i l b
    rw [onceq_tw_eq]
    refine ⟨?_⟩
    simp only [wfAL, wfA, wfS, wfM, wfB, and_true, true_and, wfT_int, wfT_str, wfT_bool, wfT_prod] at hw hwm
    obtain ⟨h1, h2, h⟩ := h
    have hf : fitA (lenI l) := by unfold smallC at h1; unfold fitA; omega
    simp only [ifB_def, eqI_def, eqL_def, eqD_def, need_def, true_and, and_true, hf, h1, h2]
    refine ⟨fun y hy => ?_, fun y hy => ?_⟩
    · obtain ⟨l', lent', n', i', r4', r5', b'⟩ := y
      dsimp only at hy ⊢
      obtain ⟨⟨rfl, rfl, rfl, rfl⟩, hb, hl⟩ := hy
      rw [hb, hl] at h
      exact h
    · obtain ⟨l', lent', n', i', r4', r5', b'⟩ := y
      dsimp only at hy ⊢
      obtain ⟨⟨rfl, rfl, rfl, rfl⟩, hb, hl, hr⟩ := hy
      rw [hb] at h
      rw [hl, hr]
      exact h
  · exact h.elim
def fits_onceq_tw : List AV → List Blk → Bool := fun args m => match args, m with | [.view [] (.prod (.int .i64) (.prod (.int .i64) (.prod (.int .i64) (.int .i64)))) _, .vsl 0 0 1 1], [.var [.fn (.func 18) [] [.vptr [] [.bool _]]]] => true | _, _ => false
noncomputable def RW_onceq_tw : List AV → List Blk → AK → Prop := pickS fits_onceq_tw onceq_twS RW_onceq_tu
theorem RWok_onceq_tw : SpecOK Try.prog 14 RW_onceq_tw := pickS_ok onceq_tw_ok RWok_onceq_tu
noncomputable def SP_onceq_tw : List AV → List Blk → AK → Prop := (specV [.sl CodeT] (frameS RW_onceq_tw))
theorem SPok_onceq_tw : SpecOK Try.prog 14 SP_onceq_tw := (specV_ok (frame_ok RWok_onceq_tw))
noncomputable def specs_onceq_tw : Specs := (14, SP_onceq_tw) :: specs_runq_tu
theorem specsOK_onceq_tw : SpecsOK Try.prog specs_onceq_tw := specsOK_cons SPok_onceq_tw specsOK_runq_tu
abbrev X_run_tw := List (den CodeT) × Int × Bool
def sh_run_tw : X_run_tw → St := fun x => match x with | (out, i, b) => ⟨setL (rep .bad 23) [(5, .view [] CodeT out), (10, .int .i64 i), (1, .vsl 0 0 1 1)], [.var [.fn (.func 18) [] [.vptr [] [.bool b]]]], [], []⟩
def sx_run_tw : AExit → X_run_tw → St := fun _ => sh_run_tw
def nx_run_tw (σ : St) : X_run_tw := (gV CodeT σ 5, gI σ 10, mcapB σ 0 0 0)
def Pre_run_tw : X_run_tw → Prop := fun x => match x with | (out, i, b) => i = 0 ∧ smallC out ∧ True
def E0_run_tw : X_run_tw → X_run_tw → Prop := fun x y => match x, y with | (out0, i0, b0), (out, i, b) => (b = b0) ∧ (out = runE [(.tw b)] out0)
def R_run_tw : X_run_tw → X_run_tw → Prop := fun x y => match x, y with | (out0, i0, b0), (out, i, b) => (b = b0) ∧ (False)
def D_run_tw : X_run_tw → LEnds X_run_tw := fun x => ⟨[(0, E0_run_tw x)], R_run_tw x⟩
noncomputable def S_run_tw : Summ := summN sh_run_tw sx_run_tw nx_run_tw Pre_run_tw D_run_tw
def Inv_run_tw : X_run_tw → X_run_tw → Prop := fun x y => match x, y with | (out0, i0, b0), (out, i, b) => (b = b0) ∧ ((0 ≤ i ∧ i ≤ 1000) ∧ out = runL [(.tw b)] out0 i.toNat ∧ smallC out)
def M_run_tw : X_run_tw → X_run_tw → Nat := fun x y => match x, y with | (out0, i0, b0), (out, i, b) => (1000 - i).toNat
theorem body_run_tw (Inv : X_run_tw → Prop) (meas : X_run_tw → Nat) (nn : Nat) (EE0 RR : X_run_tw → Prop) (out : List (den CodeT)) (i : Int) (b : Bool) : awp tab fs_alive (acall tab fs_alive specs_onceq_tw fns 100 20) [] 100 (loopAt Try.f7 3) (bodyN sh_run_tw sx_run_tw nx_run_tw Inv meas nn ⟨[(0, EE0)], RR⟩) (sh_run_tw (out, i, b)) =
  (ifB (ltB i 1000) (need (smallC out) (need True (ifB (notB (onceB (Rul.tw b :: @List.nil Rul) out)) (needr (AV.vsl 0 0 1 1) (eqDr out (eqIr i (needr (AV.fn (Fn.func
    18) ([]) (AV.vptr [] (AV.bool b :: []) :: [])) (EE0 (out, i, b)))))) (needr (AV.vsl 0 0 1 1) (eqDr (onceL (Rul.tw b :: @List.nil Rul) out) (eqIr (addW IntKind.i64
    i 1) (needr (AV.fn (Fn.func 18) ([]) (AV.vptr [] (AV.bool b :: []) :: [])) (Inv (onceL (Rul.tw b :: @List.nil Rul) out, addW IntKind.i64 i 1, b) ∧ meas (onceL (Rul.tw
    b :: @List.nil Rul) out, addW IntKind.i64 i 1, b) < nn)))))))) (needr (AV.vsl 0 0 1 1) (eqDr out (eqIr i (needr (AV.fn (Fn.func 18) ([]) (AV.vptr [] (AV.bool b ::
    []) :: [])) (EE0 (out, i, b))))))) := by kernel_rfl
theorem body_run_tw_ok : ∀ x y, Pre_run_tw x → Inv_run_tw x y → wfS (sh_run_tw y) → Hd (awp tab fs_alive (acall tab fs_alive specs_onceq_tw fns 100 20) [] 100 (loopAt Try.f7 3) (bodyN sh_run_tw sx_run_tw nx_run_tw (Inv_run_tw x) (M_run_tw x) (M_run_tw x y) (D_run_tw x)) (sh_run_tw y)) := by
  rintro ⟨out0, i0, b0⟩ ⟨out, i, b⟩ hp hI hw
  obtain ⟨rfl, hI⟩ := hI
  have hw_out := wfL_view hw 5 rfl
  have hw_i := wfL_int hw 10 rfl
  have hp : i0 = 0 ∧ smallC out0 ∧ True := hp
  unfold D_run_tw
  rw [body_run_tw]
  refine ⟨?_⟩
  have hInv : ∀ (out : List (den CodeT)) (i : Int), ((0 ≤ i ∧ i ≤ 1000) ∧ out = runL [(.tw b)] out0 i.toNat ∧ smallC out) → Inv_run_tw (out0, i0, b) (out, i, b) := fun _ _ h => ⟨rfl, h⟩
  generalize hIe : Inv_run_tw (out0, i0, b) = Inv at hInv ⊢
  have hMe : ∀ (out : List (den CodeT)) (i : Int), M_run_tw (out0, i0, b) (out, i, b) = (1000 - i).toNat := fun _ _ => rfl
  generalize M_run_tw (out0, i0, b) = Me at hMe ⊢
  have hE0 : ∀ (out : List (den CodeT)) (i : Int), (out = runE [(.tw b)] out0) → E0_run_tw (out0, i0, b) (out, i, b) := fun _ _ h => ⟨rfl, h⟩
  generalize E0_run_tw (out0, i0, b) = EE0 at hE0 ⊢
  have hR : ∀ (out : List (den CodeT)) (i : Int), (False) → R_run_tw (out0, i0, b) (out, i, b) := fun _ _ h => ⟨rfl, h⟩
  generalize R_run_tw (out0, i0, b) = RR at hR ⊢
  obtain ⟨hi, hI, hsm⟩ := hI
  obtain ⟨p1, p2, hto⟩ := hp
  have hshort : ∀ r ∈ [((.tw b) : Rul)], shortR r := fun r hr => by simp only [List.mem_cons, List.not_mem_nil, or_false] at hr; subst hr; exact trivial
  by_cases hlt : i < 1000
  · have ei : addW .i64 i 1 = i + 1 := addW64 (by omega) (by omega)
    have e2 : (i + 1).toNat = i.toNat + 1 := by omega
    rw [ltB_t.2 hlt]
    simp only [ifB_def, eqI_def, eqL_def, eqD_def, need_def, true_and, and_true, reduceCtorEq, false_implies, true_implies, hsm, hto, ei, notB_def, Bool.not_eq_true', Bool.not_eq_false', hMe]
    refine ⟨fun hb => hE0 _ _ ?_, fun hb => ⟨hInv _ _ ⟨⟨by omega, by omega⟩, ?_, ?_⟩, by omega⟩⟩
    · have := run_stop (ks := [(.tw b)]) (l := out0) (n := i.toNat) (by rw [← hI]; exact hb) (1000 - i.toNat)
      have e3 : i.toNat + (1000 - i.toNat) = 1000 := by omega
      rw [e3, ← hI] at this
      exact this.symm
    · rw [e2, run_succ, ← hI, hb]; rfl
    · have := once_len hshort hb; unfold smallC at *; omega
  · have e : i = 1000 := by omega
    subst e
    rw [ltB_f.2 (by omega)]
    simp only [simpsL, implies_true, forall_const, if_true, if_false, reduceCtorEq]
    exact hE0 _ _ hI
theorem summ_run_tw : SummOK Try.prog (loopAt Try.f7 3) S_run_tw :=
  summN_ok (L := []) (fuel := 100) tabOK fsOK_alive (mkCall fsOK_alive specsOK_onceq_tw fnsOK) (fun C => mkDraw fsOK_alive (mkCall fsOK_alive specsOK_onceq_tw fnsOK) C) loopsOK_nil Inv_run_tw M_run_tw
    (fun x hp hw => by
      obtain ⟨out, i, b⟩ := x
      have hp : i = 0 ∧ smallC out ∧ True := hp
      have hw_out := wfL_view hw 5 rfl
      have hw_i := wfL_int hw 10 rfl
      obtain ⟨rfl, h, _⟩ := hp
      exact ⟨rfl, ⟨by omega, by omega⟩, rfl, h⟩)
    (body_run_tw_ok)
noncomputable def fns_runq_tw : Fns := (7, Try.f7, [(3, S_run_tw)]) :: fns
theorem fn_runq_tw : FnOK Try.prog 7 Try.f7 [(3, S_run_tw)] := fnOK_loops Try.func7 (fun vs w => Try.call7 vs w) (by kernel_rfl) fun k S h => by
  simp only [List.mem_cons, Prod.mk.injEq, List.not_mem_nil, or_false] at h
  obtain ⟨rfl, rfl⟩ := h
  exact summ_run_tw
theorem fns_runq_twOK : FnsOK Try.prog fns_runq_tw := fnsOK_cons fn_runq_tw fnsOK
noncomputable def runq_twS : List AV → List Blk → AK → Prop := fun args m K => match args, m with | [.view [] (.prod (.int .i64) (.prod (.int .i64) (.prod (.int .i64) (.int .i64)))) l, .vsl 0 0 1 1], [.var [.fn (.func 18) [] [.vptr [] [.bool b]]]] => need (smallC l) (need (True) (K (.ret (.view [] CodeT (runE [(.tw b)] l))) [.var [.fn (.func 18) [] [.vptr [] [.bool b]]]] [] [])) | _, _ => False
theorem runq_tw_eq (K : AK) (l : List (den CodeT)) (b : Bool) : acall tab fs_alive specs_once7 fns_runq_tw 100 20 7 [.view [] CodeT l, .vsl 0 0 1 1] [.var [.fn (.func 18) [] [.vptr [] [.bool b]]]] (frzK (mlen [.var [.fn (.func 18) [] [.vptr [] [.bool b]]]]) (.sl CodeT) [] [] K) =
  (need (fitA (lenI l)) (needr (AV.vsl 0 0 1 1) (eqDr l (eqIr 0 (needr (AV.fn (Fn.func 18) ([]) (AV.vptr [] (AV.bool b :: []) :: [])) (((0 : Int) = 0 ∧ smallC l ∧ True)
    ∧ ((∀ (y : X_run_tw), y.2.2 = b ∧ y.1 = runE (Rul.tw y.2.2 :: @List.nil Rul) l → K (AOut.ret (AV.view [] CodeT y.1)) (Blk.var (AV.fn (Fn.func 18) ([]) (AV.vptr []
    (AV.bool y.2.2 :: []) :: []) :: []) :: []) [] []) ∧ True) ∧ ∀ (y : X_run_tw), y.2.2 = b ∧ False → K (AOut.ret AV.bad) (Blk.var (AV.fn (Fn.func 18) ([]) (AV.vptr
    [] (AV.bool y.2.2 :: []) :: []) :: []) :: []) [] [])))))) := by kernel_rfl
theorem runq_tw_ok : SpecOK Try.prog 7 runq_twS := specOKF_of (mkCall fsOK_alive specsOK_once7 fns_runq_twOK) (.sl CodeT) [] [] (fun vs w => Try.call7 vs w) fun args m K h hw hwm => by
  unfold runq_twS at h
  split at h
  · rename_i l b
    rw [runq_tw_eq]
    refine ⟨?_⟩
    simp only [wfAL, wfA, wfS, wfM, wfB, and_true, true_and, wfT_int, wfT_str, wfT_bool, wfT_prod] at hw hwm
    obtain ⟨h1, h2, h⟩ := h
    have hf : fitA (lenI l) := by unfold smallC at h1; unfold fitA; omega
    simp only [ifB_def, eqI_def, eqL_def, eqD_def, need_def, true_and, and_true, hf, h1, h2]
    refine ⟨fun y hy => ?_, fun y hy => hy.2.elim⟩
    obtain ⟨out', i', b'⟩ := y
    dsimp only at hy ⊢
    obtain ⟨h3, h5⟩ := hy
    subst h3
    rw [h5]
    exact h
  · exact h.elim
def fits_runq_tw : List AV → List Blk → Bool := fun args m => match args, m with | [.view [] (.prod (.int .i64) (.prod (.int .i64) (.prod (.int .i64) (.int .i64)))) _, .vsl 0 0 1 1], [.var [.fn (.func 18) [] [.vptr [] [.bool _]]]] => true | _, _ => false
noncomputable def RW_runq_tw : List AV → List Blk → AK → Prop := pickS fits_runq_tw runq_twS RW_runq_tu
theorem RWok_runq_tw : SpecOK Try.prog 7 RW_runq_tw := pickS_ok runq_tw_ok RWok_runq_tu
noncomputable def SP_runq_tw : List AV → List Blk → AK → Prop := (specV [.sl CodeT] (frameS RW_runq_tw))
theorem SPok_runq_tw : SpecOK Try.prog 7 SP_runq_tw := (specV_ok (frame_ok RWok_runq_tw))
noncomputable def specs_runq_tw : Specs := (7, SP_runq_tw) :: specs_onceq_tw
theorem specsOK_runq_tw : SpecsOK Try.prog specs_runq_tw := specsOK_cons SPok_runq_tw specsOK_onceq_tw
abbrev X_once_id := List (den CodeT) × List (den CodeT) × Int × Int × Int × Int × List (den CodeT) × Bool × Bool
def sh_once_id : X_once_id → St := fun x => match x with | (l, lent, i, n, i2, j, r4, r5, b) => ⟨setL (rep .bad 63) [(0, .view [] CodeT l), (6, .view [] CodeT lent), (7, .int .i64 i), (16, .int .i64 n), (17, .int .i64 i2), (22, .int .i64 j), (1, .vsl 0 0 1 1), (20, .vsl 0 0 1 1), (21, .int .i64 1)], [.var [.fn (.func 20) [] [.vptr [] [.bool b]]]], [], []⟩
def shr_once_id : X_once_id → St := fun x => match x with | (l, lent, i, n, i2, j, r4, r5, b) => ⟨setL (rep .bad 63) [(0, .view [] CodeT l), (6, .view [] CodeT lent), (7, .int .i64 i), (16, .int .i64 n), (17, .int .i64 i2), (22, .int .i64 j), (4, .view [] CodeT r4), (5, .bool r5), (1, .vsl 0 0 1 1), (20, .vsl 0 0 1 1), (21, .int .i64 1)], [.var [.fn (.func 20) [] [.vptr [] [.bool b]]]], [], []⟩
def sx_once_id : AExit → X_once_id → St := fun e => match e with | .ret => shr_once_id | _ => sh_once_id
def nx_once_id (σ : St) : X_once_id := (gV CodeT σ 0, gV CodeT σ 6, gI σ 7, gI σ 16, gI σ 17, gI σ 22, gV CodeT σ 4, gB σ 5, mcapB σ 0 0 0)
def Pre_once_id : X_once_id → Prop := fun x => match x with | (l, lent, i, n, i2, j, r4, r5, b) => ((j = 0)) ∧ (inI i (lenI l) ∧ lent = l ∧ smallC l ∧ True)
def E2_once_id : X_once_id → X_once_id → Prop := fun x y => match x, y with | (l0, lent0, i0, n0, i20, j0, r40, r50, b0), (l, lent, i, n, i2, j, r4, r5, b) => (l = l0 ∧ lent = lent0 ∧ i = i0 ∧ n = n0 ∧ i2 = i20 ∧ b = b0) ∧ (pickB [(.id b)] l i = false)
def R_once_id : X_once_id → X_once_id → Prop := fun x y => match x, y with | (l0, lent0, i0, n0, i20, j0, r40, r50, b0), (l, lent, i, n, i2, j, r4, r5, b) => (l = l0 ∧ lent = lent0 ∧ i = i0 ∧ n = n0 ∧ i2 = i20 ∧ b = b0) ∧ (pickB [(.id b)] l i = true ∧ r4 = pickL [(.id b)] l i ∧ r5 = true)
def D_once_id : X_once_id → LEnds X_once_id := fun x => ⟨[(2, E2_once_id x)], R_once_id x⟩
noncomputable def S_once_id : Summ := summN sh_once_id sx_once_id nx_once_id Pre_once_id D_once_id
theorem body_once_id0 (EE2 RR : X_once_id → Prop) (l : List (den CodeT)) (lent : List (den CodeT)) (i : Int) (n : Int) (i2 : Int) (r4 : List (den CodeT)) (r5 : Bool) (b : Bool) : awp tab fs_alive (acall tab fs_alive specs_runq_tw fns 100 20) [] 100 (.loop (loopAt Try.f14 6)) (bodyN sh_once_id sx_once_id nx_once_id (fun _ => False) (fun _ => 0) 0 ⟨[(2, EE2)], RR⟩) (sh_once_id (l, lent, i, n, i2, 0, r4, r5, b)) =
  (ifB (selB (selB (idleC b lent i) (leB 1 (idleN lent i)) false) (leB (idleN lent i) (subW IntKind.i64 (lenI l) i)) false) (need (leI 0 0) (need (leI 0 i) (need (leI
    i (lenI l)) (need (leI 0 (addW IntKind.i64 i (idleN lent i))) (need (leI (addW IntKind.i64 i (idleN lent i)) (lenI l)) (need (leI (lenI l) (lenI l)) (need (leI (sumC
    (subL l 0 i :: idleL b lent i :: subL l (addW IntKind.i64 i (idleN lent i)) (lenI l) :: @List.nil (den CodeT.list))) 1000000) (eqDr l (needr (AV.vsl 0 0 1 1) (eqDr
    (joinC (subL l 0 i :: idleL b lent i :: subL l (addW IntKind.i64 i (idleN lent i)) (lenI l) :: @List.nil (den CodeT.list))) (eqLr true (eqDr lent (eqIr i (eqIr n
    (eqIr i2 (needr (AV.vsl 0 0 1 1) (eqIr 1 (eqIr 0 (needr (AV.fn (Fn.func 20) ([]) (AV.vptr [] (AV.bool b :: []) :: [])) (RR (l, lent, i, n, i2, 0, joinC (subL l 0
    i :: idleL b lent i :: subL l (addW IntKind.i64 i (idleN lent i)) (lenI l) :: @List.nil (den CodeT.list)), true, b))))))))))))))))))))) (eqDr l (needr (AV.vsl 0
    0 1 1) (eqDr lent (eqIr i (eqIr n (eqIr i2 (needr (AV.vsl 0 0 1 1) (eqIr 1 (eqIr 1 (needr (AV.fn (Fn.func 20) ([]) (AV.vptr [] (AV.bool b :: []) :: [])) (EE2 (l,
    lent, i, n, i2, 1, @List.nil (den CodeT), false, b))))))))))))) := by kernel_rfl
theorem body_once_id_ok : ∀ x, Pre_once_id x → wfS (sh_once_id x) → Hd (awp tab fs_alive (acall tab fs_alive specs_runq_tw fns 100 20) [] 100 (.loop (loopAt Try.f14 6)) (bodyN sh_once_id sx_once_id nx_once_id (fun _ => False) (fun _ => 0) 0 (D_once_id x)) (sh_once_id x)) := by
  rintro ⟨l0, lent0, i0, n0, i20, j0, r40, r50, b0⟩ hp hw
  obtain ⟨hc, hp⟩ := hp
  have hp : inI i0 (lenI l0) ∧ lent0 = l0 ∧ smallC l0 ∧ True := hp
  unfold D_once_id
  have hE2 : ∀ (j : Int) (r4 : List (den CodeT)) (r5 : Bool), (pickB [(.id b0)] l0 i0 = false) → E2_once_id (l0, lent0, i0, n0, i20, j0, r40, r50, b0) (l0, lent0, i0, n0, i20, j, r4, r5, b0) := fun _ _ _ h => ⟨⟨rfl, rfl, rfl, rfl, rfl, rfl⟩, h⟩
  generalize E2_once_id (l0, lent0, i0, n0, i20, j0, r40, r50, b0) = EE2 at hE2 ⊢
  have hR : ∀ (j : Int) (r4 : List (den CodeT)) (r5 : Bool), (pickB [(.id b0)] l0 i0 = true ∧ r4 = pickL [(.id b0)] l0 i0 ∧ r5 = true) → R_once_id (l0, lent0, i0, n0, i20, j0, r40, r50, b0) (l0, lent0, i0, n0, i20, j, r4, r5, b0) := fun _ _ _ h => ⟨⟨rfl, rfl, rfl, rfl, rfl, rfl⟩, h⟩
  generalize R_once_id (l0, lent0, i0, n0, i20, j0, r40, r50, b0) = RR at hR ⊢
  rcases hc with rfl
  · rw [body_once_id0]
    refine ⟨?_⟩
    obtain ⟨⟨hi0, hi1⟩, hll, hsm, hto⟩ := hp
    have hll := hll.symm
    subst hll
    unfold smallC at hsm
    have hs : subW .i64 (lenI l0) i0 = lenI l0 - i0 := subW64 (by omega) (by omega)
    have c0 := good_id (b := b0) (l := l0) (i := i0) hs
    rw [c0]
    clear c0
    rw [ifB_def]
    refine ⟨fun g0 => ?_, fun g0 => ?_⟩
    · have hq := put_ok (r := (.id b0)) hi0 hi1 hsm id_le g0
      obtain ⟨q1, q2, q3, q4, q5, q6, q7, q8⟩ := hq
      have hpb := pickB_some (pick_one g0)
      refine ⟨q1, q2, q3, q4, q5, q6, q7, ?_⟩
      simp only [eqI_def, eqL_def, eqD_def, need_def, true_and, and_true]
      exact hR _ _ _ ⟨hpb.1, q8.trans hpb.2.symm, rfl⟩
    · have hpk := pick_no g0
      simp only [eqI_def, eqL_def, eqD_def, need_def, true_and, and_true]
      exact hE2 _ _ _ (pickB_none hpk)
theorem summ_once_id : SummOK Try.prog (loopAt Try.f14 6) S_once_id :=
  summW_ok (L := []) (fuel := 100) tabOK fsOK_alive (mkCall fsOK_alive specsOK_runq_tw fnsOK) (fun C => mkDraw fsOK_alive (mkCall fsOK_alive specsOK_runq_tw fnsOK) C) loopsOK_nil body_once_id_ok
abbrev X_onces_id := List (den CodeT) × List (den CodeT) × Int × Int × List (den CodeT) × Bool × Bool
def sh_onces_id : X_onces_id → St := fun x => match x with | (l, lent, n, i, r4, r5, b) => ⟨setL (rep .bad 63) [(0, .view [] CodeT l), (6, .view [] CodeT lent), (16, .int .i64 n), (17, .int .i64 i), (1, .vsl 0 0 1 1)], [.var [.fn (.func 20) [] [.vptr [] [.bool b]]]], [], []⟩
def shr_onces_id : X_onces_id → St := fun x => match x with | (l, lent, n, i, r4, r5, b) => ⟨setL (rep .bad 63) [(0, .view [] CodeT l), (6, .view [] CodeT lent), (16, .int .i64 n), (17, .int .i64 i), (4, .view [] CodeT r4), (5, .bool r5), (1, .vsl 0 0 1 1)], [.var [.fn (.func 20) [] [.vptr [] [.bool b]]]], [], []⟩
def sx_onces_id : AExit → X_onces_id → St := fun e => match e with | .ret => shr_onces_id | _ => sh_onces_id
def nx_onces_id (σ : St) : X_onces_id := (gV CodeT σ 0, gV CodeT σ 6, gI σ 16, gI σ 17, gV CodeT σ 4, gB σ 5, mcapB σ 0 0 0)
def Pre_onces_id : X_onces_id → Prop := fun x => match x with | (l, lent, n, i, r4, r5, b) => i = 0 ∧ n = lenI l ∧ lent = l ∧ smallC l ∧ True
def E0_onces_id : X_onces_id → X_onces_id → Prop := fun x y => match x, y with | (l0, lent0, n0, i0, r40, r50, b0), (l, lent, n, i, r4, r5, b) => (l = l0 ∧ lent = lent0 ∧ n = n0 ∧ b = b0) ∧ (onceB [(.id b)] l = false ∧ onceL [(.id b)] l = l)
def R_onces_id : X_onces_id → X_onces_id → Prop := fun x y => match x, y with | (l0, lent0, n0, i0, r40, r50, b0), (l, lent, n, i, r4, r5, b) => (l = l0 ∧ lent = lent0 ∧ n = n0 ∧ b = b0) ∧ (onceB [(.id b)] l = true ∧ r4 = onceL [(.id b)] l ∧ r5 = true)
def D_onces_id : X_onces_id → LEnds X_onces_id := fun x => ⟨[(0, E0_onces_id x)], R_onces_id x⟩
noncomputable def S_onces_id : Summ := summN sh_onces_id sx_onces_id nx_onces_id Pre_onces_id D_onces_id
def Inv_onces_id : X_onces_id → X_onces_id → Prop := fun x y => match x, y with | (l0, lent0, n0, i0, r40, r50, b0), (l, lent, n, i, r4, r5, b) => (l = l0 ∧ lent = lent0 ∧ n = n0 ∧ b = b0) ∧ ((0 ≤ i ∧ i ≤ n) ∧ fromE [(.id b)] l i)
def M_onces_id : X_onces_id → X_onces_id → Nat := fun x y => match x, y with | (l0, lent0, n0, i0, r40, r50, b0), (l, lent, n, i, r4, r5, b) => (n - i).toNat
theorem body_onces_id (Inv : X_onces_id → Prop) (meas : X_onces_id → Nat) (nn : Nat) (EE0 RR : X_onces_id → Prop) (l : List (den CodeT)) (lent : List (den CodeT)) (n : Int) (i : Int) (r4 : List (den CodeT)) (r5 : Bool) (b : Bool) : awp tab fs_alive (acall tab fs_alive specs_runq_tw fns 100 20) [(6, S_once_id)] 100 (loopAt Try.f14 3) (bodyN sh_onces_id sx_onces_id nx_onces_id Inv meas nn ⟨[(0, EE0)], RR⟩) (sh_onces_id (l, lent, n, i, r4, r5, b)) =
  (ifB (ltB i n) (eqDr l (needr (AV.vsl 0 0 1 1) (eqDr lent (eqIr i (eqIr n (eqIr i (needr (AV.vsl 0 0 1 1) (eqIr 1 (eqIr 0 (needr (AV.fn (Fn.func 20) ([]) (AV.vptr
    [] (AV.bool b :: []) :: [])) (((0 : Int) = 0 ∧ inI i (lenI l) ∧ lent = l ∧ smallC l ∧ True) ∧ ((∀ (y : X_once_id), (y.1 = l ∧ y.2.1 = lent ∧ y.2.2.1 = i ∧ y.2.2.2.1
    = n ∧ y.2.2.2.2.1 = i ∧ y.2.2.2.2.2.2.2.2 = b) ∧ pickB (Rul.id y.2.2.2.2.2.2.2.2 :: @List.nil Rul) y.1 y.2.2.1 = false → eqDr y.1 (needr (AV.vsl 0 0 1 1) (eqDr y.2.1
    (eqIr y.2.2.2.1 (eqIr (addW IntKind.i64 y.2.2.2.2.1 1) (needr (AV.fn (Fn.func 20) ([]) (AV.vptr [] (AV.bool y.2.2.2.2.2.2.2.2 :: []) :: [])) (Inv (y.1, y.2.1, y.2.2.2.1,
    addW IntKind.i64 y.2.2.2.2.1 1, @List.nil (den CodeT), false, y.2.2.2.2.2.2.2.2) ∧ meas (y.1, y.2.1, y.2.2.2.1, addW IntKind.i64 y.2.2.2.2.1 1, @List.nil (den CodeT),
    false, y.2.2.2.2.2.2.2.2) < nn))))))) ∧ True) ∧ ∀ (y : X_once_id), (y.1 = l ∧ y.2.1 = lent ∧ y.2.2.1 = i ∧ y.2.2.2.1 = n ∧ y.2.2.2.2.1 = i ∧ y.2.2.2.2.2.2.2.2 =
    b) ∧ pickB (Rul.id y.2.2.2.2.2.2.2.2 :: @List.nil Rul) y.1 y.2.2.1 = true ∧ y.2.2.2.2.2.2.1 = pickL (Rul.id y.2.2.2.2.2.2.2.2 :: @List.nil Rul) y.1 y.2.2.1 ∧ y.2.2.2.2.2.2.2.1
    = true → eqDr y.1 (needr (AV.vsl 0 0 1 1) (eqDr y.2.2.2.2.2.2.1 (eqLr y.2.2.2.2.2.2.2.1 (eqDr y.2.1 (eqIr y.2.2.2.1 (eqIr y.2.2.2.2.1 (needr (AV.fn (Fn.func 20)
    ([]) (AV.vptr [] (AV.bool y.2.2.2.2.2.2.2.2 :: []) :: [])) (RR (y.1, y.2.1, y.2.2.2.1, y.2.2.2.2.1, y.2.2.2.2.2.2.1, y.2.2.2.2.2.2.2.1, y.2.2.2.2.2.2.2.2))))))))))))))))))))
    (eqDr l (needr (AV.vsl 0 0 1 1) (eqDr lent (eqIr n (eqIr i (needr (AV.fn (Fn.func 20) ([]) (AV.vptr [] (AV.bool b :: []) :: [])) (EE0 (l, lent, n, i, @List.nil (den
    CodeT), false, b))))))))) := by kernel_rfl
theorem body_onces_id_ok : ∀ x y, Pre_onces_id x → Inv_onces_id x y → wfS (sh_onces_id y) → Hd (awp tab fs_alive (acall tab fs_alive specs_runq_tw fns 100 20) [(6, S_once_id)] 100 (loopAt Try.f14 3) (bodyN sh_onces_id sx_onces_id nx_onces_id (Inv_onces_id x) (M_onces_id x) (M_onces_id x y) (D_onces_id x)) (sh_onces_id y)) := by
  rintro ⟨l0, lent0, n0, i0, r40, r50, b0⟩ ⟨l, lent, n, i, r4, r5, b⟩ hp hI hw
  obtain ⟨⟨rfl, rfl, rfl, rfl⟩, hI⟩ := hI
  have hw_l := wfL_view hw 0 rfl
  have hw_lent := wfL_view hw 6 rfl
  have hw_n := wfL_int hw 16 rfl
  have hw_i := wfL_int hw 17 rfl
  have hp : i0 = 0 ∧ n = lenI l ∧ lent = l ∧ smallC l ∧ True := hp
  unfold D_onces_id
  rw [body_onces_id]
  refine ⟨?_⟩
  have hInv : ∀ (i : Int) (r4 : List (den CodeT)) (r5 : Bool), ((0 ≤ i ∧ i ≤ n) ∧ fromE [(.id b)] l i) → Inv_onces_id (l, lent, n, i0, r40, r50, b) (l, lent, n, i, r4, r5, b) := fun _ _ _ h => ⟨⟨rfl, rfl, rfl, rfl⟩, h⟩
  generalize hIe : Inv_onces_id (l, lent, n, i0, r40, r50, b) = Inv at hInv ⊢
  have hMe : ∀ (i : Int) (r4 : List (den CodeT)) (r5 : Bool), M_onces_id (l, lent, n, i0, r40, r50, b) (l, lent, n, i, r4, r5, b) = (n - i).toNat := fun _ _ _ => rfl
  generalize M_onces_id (l, lent, n, i0, r40, r50, b) = Me at hMe ⊢
  have hE0 : ∀ (i : Int) (r4 : List (den CodeT)) (r5 : Bool), (onceB [(.id b)] l = false ∧ onceL [(.id b)] l = l) → E0_onces_id (l, lent, n, i0, r40, r50, b) (l, lent, n, i, r4, r5, b) := fun _ _ _ h => ⟨⟨rfl, rfl, rfl, rfl⟩, h⟩
  generalize E0_onces_id (l, lent, n, i0, r40, r50, b) = EE0 at hE0 ⊢
  have hR : ∀ (i : Int) (r4 : List (den CodeT)) (r5 : Bool), (onceB [(.id b)] l = true ∧ r4 = onceL [(.id b)] l ∧ r5 = true) → R_onces_id (l, lent, n, i0, r40, r50, b) (l, lent, n, i, r4, r5, b) := fun _ _ _ h => ⟨⟨rfl, rfl, rfl, rfl⟩, h⟩
  generalize R_onces_id (l, lent, n, i0, r40, r50, b) = RR at hR ⊢
  obtain ⟨hi, hI⟩ := hI
  obtain ⟨p1, rfl, hll, hsm, hto⟩ := hp
  have hll := hll.symm
  subst hll
  have hlen := wfT_len hw_l
  by_cases hlt : i < lenI l
  · have ei : addW .i64 i 1 = i + 1 := addW64 (by omega) (by omega)
    rw [ltB_t.2 hlt]
    simp only [ifB_def, eqI_def, eqL_def, eqD_def, need_def, true_and, and_true, reduceCtorEq, false_implies, true_implies]
    refine ⟨⟨⟨hi.1, hlt⟩, hsm⟩, ?_, ?_⟩
    · rintro ⟨l', lent', i', n', i2', j', r4', r5', b'⟩ ⟨hk, hb⟩
      dsimp only at hk hb ⊢
      obtain ⟨rfl, rfl, rfl, rfl, hii, rfl⟩ := hk
      subst hii
      rw [ei]
      exact ⟨hInv _ _ _ ⟨⟨by omega, by omega⟩, from_next hi.1 hlt hI hb⟩, by simp only [hMe]; omega⟩
    · rintro ⟨l', lent', i', n', i2', j', r4', r5', b'⟩ ⟨hk, hb, hr4, hr5⟩
      dsimp only at hk hb hr4 hr5 ⊢
      obtain ⟨rfl, rfl, rfl, rfl, hii, rfl⟩ := hk
      subst hii
      have hs := from_some hi.1 hlt hI hb
      exact hR _ _ _ ⟨hs.1, hr4.trans hs.2.symm, hr5⟩
  · rw [ltB_f.2 (Int.not_lt.1 hlt)]
    have he := from_end (by omega) hI
    simp only [simpsL, implies_true, forall_const, if_true, if_false, reduceCtorEq]
    exact hE0 _ _ _ he
theorem lok_onces_id : LoopsOK Try.prog [(6, S_once_id)] (loopAt Try.f14 3) := loopsOK_at (by kernel_rfl) fun k S h => by
  simp only [List.mem_cons, Prod.mk.injEq, List.not_mem_nil, or_false] at h
  obtain ⟨rfl, rfl⟩ := h
  exact (by kernel_rfl : findLoop (loopsOf (loopAt Try.f14 3)) 6 = loopAt Try.f14 6) ▸ summ_once_id
theorem summ_onces_id : SummOK Try.prog (loopAt Try.f14 3) S_onces_id :=
  summN_ok (L := [(6, S_once_id)]) (fuel := 100) tabOK fsOK_alive (mkCall fsOK_alive specsOK_runq_tw fnsOK) (fun C => mkDraw fsOK_alive (mkCall fsOK_alive specsOK_runq_tw fnsOK) C) lok_onces_id Inv_onces_id M_onces_id
    (fun x hp hw => by
      obtain ⟨l, lent, n, i, r4, r5, b⟩ := x
      have hp : i = 0 ∧ n = lenI l ∧ lent = l ∧ smallC l ∧ True := hp
      have hw_l := wfL_view hw 0 rfl
      have hw_lent := wfL_view hw 6 rfl
      have hw_n := wfL_int hw 16 rfl
      have hw_i := wfL_int hw 17 rfl
      obtain ⟨rfl, rfl, rfl, _⟩ := hp
      exact ⟨⟨rfl, rfl, rfl, rfl⟩, ⟨by omega, lenI_nn _⟩, from_zero⟩)
    (body_onces_id_ok)
noncomputable def fns_onceq_id : Fns := (14, Try.f14, [(3, S_onces_id)]) :: fns
theorem fn_onceq_id : FnOK Try.prog 14 Try.f14 [(3, S_onces_id)] := fnOK_loops Try.func14 (fun vs w => Try.call14 vs w) (by kernel_rfl) fun k S h => by
  simp only [List.mem_cons, Prod.mk.injEq, List.not_mem_nil, or_false] at h
  obtain ⟨rfl, rfl⟩ := h
  exact summ_onces_id
theorem fns_onceq_idOK : FnsOK Try.prog fns_onceq_id := fnsOK_cons fn_onceq_id fnsOK
noncomputable def onceq_idS : List AV → List Blk → AK → Prop := fun args m K => match args, m with | [.view [] (.prod (.int .i64) (.prod (.int .i64) (.prod (.int .i64) (.int .i64)))) l, .vsl 0 0 1 1], [.var [.fn (.func 20) [] [.vptr [] [.bool b]]]] => need (smallC l) (need (True) (K (.ret (.tup [.view [] CodeT (onceL [(.id b)] l), .bool (onceB [(.id b)] l)])) [.var [.fn (.func 20) [] [.vptr [] [.bool b]]]] [] [])) | _, _ => False
theorem onceq_id_eq (K : AK) (l : List (den CodeT)) (b : Bool) : acall tab fs_alive specs_grow fns_onceq_id 100 20 14 [.view [] CodeT l, .vsl 0 0 1 1] [.var [.fn (.func 20) [] [.vptr [] [.bool b]]]] (frzK (mlen [.var [.fn (.func 20) [] [.vptr [] [.bool b]]]]) (.ag [.sl CodeT, .any]) [] [] K) =
  (need (fitA (lenI l)) (eqDr l (needr (AV.vsl 0 0 1 1) (eqDr l (eqIr (lenI l) (eqIr 0 (needr (AV.fn (Fn.func 20) ([]) (AV.vptr [] (AV.bool b :: []) :: [])) (((0 :
    Int) = 0 ∧ lenI l = lenI l ∧ l = l ∧ smallC l ∧ True) ∧ ((∀ (y : X_onces_id), (y.1 = l ∧ y.2.1 = l ∧ y.2.2.1 = lenI l ∧ y.2.2.2.2.2.2 = b) ∧ onceB (Rul.id y.2.2.2.2.2.2
    :: @List.nil Rul) y.1 = false ∧ onceL (Rul.id y.2.2.2.2.2.2 :: @List.nil Rul) y.1 = y.1 → K (AOut.ret (AV.tup (AV.view [] CodeT y.1 :: AV.bool false :: []))) (Blk.var
    (AV.fn (Fn.func 20) ([]) (AV.vptr [] (AV.bool y.2.2.2.2.2.2 :: []) :: []) :: []) :: []) [] []) ∧ True) ∧ ∀ (y : X_onces_id), (y.1 = l ∧ y.2.1 = l ∧ y.2.2.1 = lenI
    l ∧ y.2.2.2.2.2.2 = b) ∧ onceB (Rul.id y.2.2.2.2.2.2 :: @List.nil Rul) y.1 = true ∧ y.2.2.2.2.1 = onceL (Rul.id y.2.2.2.2.2.2 :: @List.nil Rul) y.1 ∧ y.2.2.2.2.2.1
    = true → K (AOut.ret (AV.tup (AV.view [] CodeT y.2.2.2.2.1 :: AV.bool y.2.2.2.2.2.1 :: []))) (Blk.var (AV.fn (Fn.func 20) ([]) (AV.vptr [] (AV.bool y.2.2.2.2.2.2
    :: []) :: []) :: []) :: []) [] [])))))))) := by kernel_rfl
theorem onceq_id_ok : SpecOK Try.prog 14 onceq_idS := specOKF_of (mkCall fsOK_alive specsOK_grow fns_onceq_idOK) (.ag [.sl CodeT, .any]) [] [] (fun vs w => Try.call14 vs w) fun args m K h hw hwm => by
  unfold onceq_idS at h
  split at h
  · rename_i l b
    rw [onceq_id_eq]
    refine ⟨?_⟩
    simp only [wfAL, wfA, wfS, wfM, wfB, and_true, true_and, wfT_int, wfT_str, wfT_bool, wfT_prod] at hw hwm
    obtain ⟨h1, h2, h⟩ := h
    have hf : fitA (lenI l) := by unfold smallC at h1; unfold fitA; omega
    simp only [ifB_def, eqI_def, eqL_def, eqD_def, need_def, true_and, and_true, hf, h1, h2]
    refine ⟨fun y hy => ?_, fun y hy => ?_⟩
    · obtain ⟨l', lent', n', i', r4', r5', b'⟩ := y
      dsimp only at hy ⊢
      obtain ⟨⟨rfl, rfl, rfl, rfl⟩, hb, hl⟩ := hy
      rw [hb, hl] at h
      exact h
    · obtain ⟨l', lent', n', i', r4', r5', b'⟩ := y
      dsimp only at hy ⊢
      obtain ⟨⟨rfl, rfl, rfl, rfl⟩, hb, hl, hr⟩ := hy
      rw [hb] at h
      rw [hl, hr]
      exact h
  · exact h.elim
def fits_onceq_id : List AV → List Blk → Bool := fun args m => match args, m with | [.view [] (.prod (.int .i64) (.prod (.int .i64) (.prod (.int .i64) (.int .i64)))) _, .vsl 0 0 1 1], [.var [.fn (.func 20) [] [.vptr [] [.bool _]]]] => true | _, _ => false
noncomputable def RW_onceq_id : List AV → List Blk → AK → Prop := pickS fits_onceq_id onceq_idS RW_onceq_tw
theorem RWok_onceq_id : SpecOK Try.prog 14 RW_onceq_id := pickS_ok onceq_id_ok RWok_onceq_tw
noncomputable def SP_onceq_id : List AV → List Blk → AK → Prop := (specV [.sl CodeT] (frameS RW_onceq_id))
theorem SPok_onceq_id : SpecOK Try.prog 14 SP_onceq_id := (specV_ok (frame_ok RWok_onceq_id))
noncomputable def specs_onceq_id : Specs := (14, SP_onceq_id) :: specs_runq_tw
theorem specsOK_onceq_id : SpecsOK Try.prog specs_onceq_id := specsOK_cons SPok_onceq_id specsOK_runq_tw
abbrev X_run_id := List (den CodeT) × Int × Bool
def sh_run_id : X_run_id → St := fun x => match x with | (out, i, b) => ⟨setL (rep .bad 23) [(5, .view [] CodeT out), (10, .int .i64 i), (1, .vsl 0 0 1 1)], [.var [.fn (.func 20) [] [.vptr [] [.bool b]]]], [], []⟩
def sx_run_id : AExit → X_run_id → St := fun _ => sh_run_id
def nx_run_id (σ : St) : X_run_id := (gV CodeT σ 5, gI σ 10, mcapB σ 0 0 0)
def Pre_run_id : X_run_id → Prop := fun x => match x with | (out, i, b) => i = 0 ∧ smallC out ∧ True
def E0_run_id : X_run_id → X_run_id → Prop := fun x y => match x, y with | (out0, i0, b0), (out, i, b) => (b = b0) ∧ (out = runE [(.id b)] out0)
def R_run_id : X_run_id → X_run_id → Prop := fun x y => match x, y with | (out0, i0, b0), (out, i, b) => (b = b0) ∧ (False)
def D_run_id : X_run_id → LEnds X_run_id := fun x => ⟨[(0, E0_run_id x)], R_run_id x⟩
noncomputable def S_run_id : Summ := summN sh_run_id sx_run_id nx_run_id Pre_run_id D_run_id
def Inv_run_id : X_run_id → X_run_id → Prop := fun x y => match x, y with | (out0, i0, b0), (out, i, b) => (b = b0) ∧ ((0 ≤ i ∧ i ≤ 1000) ∧ out = runL [(.id b)] out0 i.toNat ∧ smallC out)
def M_run_id : X_run_id → X_run_id → Nat := fun x y => match x, y with | (out0, i0, b0), (out, i, b) => (1000 - i).toNat
theorem body_run_id (Inv : X_run_id → Prop) (meas : X_run_id → Nat) (nn : Nat) (EE0 RR : X_run_id → Prop) (out : List (den CodeT)) (i : Int) (b : Bool) : awp tab fs_alive (acall tab fs_alive specs_onceq_id fns 100 20) [] 100 (loopAt Try.f7 3) (bodyN sh_run_id sx_run_id nx_run_id Inv meas nn ⟨[(0, EE0)], RR⟩) (sh_run_id (out, i, b)) =
  (ifB (ltB i 1000) (need (smallC out) (need True (ifB (notB (onceB (Rul.id b :: @List.nil Rul) out)) (needr (AV.vsl 0 0 1 1) (eqDr out (eqIr i (needr (AV.fn (Fn.func
    20) ([]) (AV.vptr [] (AV.bool b :: []) :: [])) (EE0 (out, i, b)))))) (needr (AV.vsl 0 0 1 1) (eqDr (onceL (Rul.id b :: @List.nil Rul) out) (eqIr (addW IntKind.i64
    i 1) (needr (AV.fn (Fn.func 20) ([]) (AV.vptr [] (AV.bool b :: []) :: [])) (Inv (onceL (Rul.id b :: @List.nil Rul) out, addW IntKind.i64 i 1, b) ∧ meas (onceL (Rul.id
    b :: @List.nil Rul) out, addW IntKind.i64 i 1, b) < nn)))))))) (needr (AV.vsl 0 0 1 1) (eqDr out (eqIr i (needr (AV.fn (Fn.func 20) ([]) (AV.vptr [] (AV.bool b ::
    []) :: [])) (EE0 (out, i, b))))))) := by kernel_rfl
theorem body_run_id_ok : ∀ x y, Pre_run_id x → Inv_run_id x y → wfS (sh_run_id y) → Hd (awp tab fs_alive (acall tab fs_alive specs_onceq_id fns 100 20) [] 100 (loopAt Try.f7 3) (bodyN sh_run_id sx_run_id nx_run_id (Inv_run_id x) (M_run_id x) (M_run_id x y) (D_run_id x)) (sh_run_id y)) := by
  rintro ⟨out0, i0, b0⟩ ⟨out, i, b⟩ hp hI hw
  obtain ⟨rfl, hI⟩ := hI
  have hw_out := wfL_view hw 5 rfl
  have hw_i := wfL_int hw 10 rfl
  have hp : i0 = 0 ∧ smallC out0 ∧ True := hp
  unfold D_run_id
  rw [body_run_id]
  refine ⟨?_⟩
  have hInv : ∀ (out : List (den CodeT)) (i : Int), ((0 ≤ i ∧ i ≤ 1000) ∧ out = runL [(.id b)] out0 i.toNat ∧ smallC out) → Inv_run_id (out0, i0, b) (out, i, b) := fun _ _ h => ⟨rfl, h⟩
  generalize hIe : Inv_run_id (out0, i0, b) = Inv at hInv ⊢
  have hMe : ∀ (out : List (den CodeT)) (i : Int), M_run_id (out0, i0, b) (out, i, b) = (1000 - i).toNat := fun _ _ => rfl
  generalize M_run_id (out0, i0, b) = Me at hMe ⊢
  have hE0 : ∀ (out : List (den CodeT)) (i : Int), (out = runE [(.id b)] out0) → E0_run_id (out0, i0, b) (out, i, b) := fun _ _ h => ⟨rfl, h⟩
  generalize E0_run_id (out0, i0, b) = EE0 at hE0 ⊢
  have hR : ∀ (out : List (den CodeT)) (i : Int), (False) → R_run_id (out0, i0, b) (out, i, b) := fun _ _ h => ⟨rfl, h⟩
  generalize R_run_id (out0, i0, b) = RR at hR ⊢
  obtain ⟨hi, hI, hsm⟩ := hI
  obtain ⟨p1, p2, hto⟩ := hp
  have hshort : ∀ r ∈ [((.id b) : Rul)], shortR r := fun r hr => by simp only [List.mem_cons, List.not_mem_nil, or_false] at hr; subst hr; exact trivial
  by_cases hlt : i < 1000
  · have ei : addW .i64 i 1 = i + 1 := addW64 (by omega) (by omega)
    have e2 : (i + 1).toNat = i.toNat + 1 := by omega
    rw [ltB_t.2 hlt]
    simp only [ifB_def, eqI_def, eqL_def, eqD_def, need_def, true_and, and_true, reduceCtorEq, false_implies, true_implies, hsm, hto, ei, notB_def, Bool.not_eq_true', Bool.not_eq_false', hMe]
    refine ⟨fun hb => hE0 _ _ ?_, fun hb => ⟨hInv _ _ ⟨⟨by omega, by omega⟩, ?_, ?_⟩, by omega⟩⟩
    · have := run_stop (ks := [(.id b)]) (l := out0) (n := i.toNat) (by rw [← hI]; exact hb) (1000 - i.toNat)
      have e3 : i.toNat + (1000 - i.toNat) = 1000 := by omega
      rw [e3, ← hI] at this
      exact this.symm
    · rw [e2, run_succ, ← hI, hb]; rfl
    · have := once_len hshort hb; unfold smallC at *; omega
  · have e : i = 1000 := by omega
    subst e
    rw [ltB_f.2 (by omega)]
    simp only [simpsL, implies_true, forall_const, if_true, if_false, reduceCtorEq]
    exact hE0 _ _ hI
theorem summ_run_id : SummOK Try.prog (loopAt Try.f7 3) S_run_id :=
  summN_ok (L := []) (fuel := 100) tabOK fsOK_alive (mkCall fsOK_alive specsOK_onceq_id fnsOK) (fun C => mkDraw fsOK_alive (mkCall fsOK_alive specsOK_onceq_id fnsOK) C) loopsOK_nil Inv_run_id M_run_id
    (fun x hp hw => by
      obtain ⟨out, i, b⟩ := x
      have hp : i = 0 ∧ smallC out ∧ True := hp
      have hw_out := wfL_view hw 5 rfl
      have hw_i := wfL_int hw 10 rfl
      obtain ⟨rfl, h, _⟩ := hp
      exact ⟨rfl, ⟨by omega, by omega⟩, rfl, h⟩)
    (body_run_id_ok)
noncomputable def fns_runq_id : Fns := (7, Try.f7, [(3, S_run_id)]) :: fns
theorem fn_runq_id : FnOK Try.prog 7 Try.f7 [(3, S_run_id)] := fnOK_loops Try.func7 (fun vs w => Try.call7 vs w) (by kernel_rfl) fun k S h => by
  simp only [List.mem_cons, Prod.mk.injEq, List.not_mem_nil, or_false] at h
  obtain ⟨rfl, rfl⟩ := h
  exact summ_run_id
theorem fns_runq_idOK : FnsOK Try.prog fns_runq_id := fnsOK_cons fn_runq_id fnsOK
noncomputable def runq_idS : List AV → List Blk → AK → Prop := fun args m K => match args, m with | [.view [] (.prod (.int .i64) (.prod (.int .i64) (.prod (.int .i64) (.int .i64)))) l, .vsl 0 0 1 1], [.var [.fn (.func 20) [] [.vptr [] [.bool b]]]] => need (smallC l) (need (True) (K (.ret (.view [] CodeT (runE [(.id b)] l))) [.var [.fn (.func 20) [] [.vptr [] [.bool b]]]] [] [])) | _, _ => False
theorem runq_id_eq (K : AK) (l : List (den CodeT)) (b : Bool) : acall tab fs_alive specs_once7 fns_runq_id 100 20 7 [.view [] CodeT l, .vsl 0 0 1 1] [.var [.fn (.func 20) [] [.vptr [] [.bool b]]]] (frzK (mlen [.var [.fn (.func 20) [] [.vptr [] [.bool b]]]]) (.sl CodeT) [] [] K) =
  (need (fitA (lenI l)) (needr (AV.vsl 0 0 1 1) (eqDr l (eqIr 0 (needr (AV.fn (Fn.func 20) ([]) (AV.vptr [] (AV.bool b :: []) :: [])) (((0 : Int) = 0 ∧ smallC l ∧ True)
    ∧ ((∀ (y : X_run_id), y.2.2 = b ∧ y.1 = runE (Rul.id y.2.2 :: @List.nil Rul) l → K (AOut.ret (AV.view [] CodeT y.1)) (Blk.var (AV.fn (Fn.func 20) ([]) (AV.vptr []
    (AV.bool y.2.2 :: []) :: []) :: []) :: []) [] []) ∧ True) ∧ ∀ (y : X_run_id), y.2.2 = b ∧ False → K (AOut.ret AV.bad) (Blk.var (AV.fn (Fn.func 20) ([]) (AV.vptr
    [] (AV.bool y.2.2 :: []) :: []) :: []) :: []) [] [])))))) := by kernel_rfl
theorem runq_id_ok : SpecOK Try.prog 7 runq_idS := specOKF_of (mkCall fsOK_alive specsOK_once7 fns_runq_idOK) (.sl CodeT) [] [] (fun vs w => Try.call7 vs w) fun args m K h hw hwm => by
  unfold runq_idS at h
  split at h
  · rename_i l b
    rw [runq_id_eq]
    refine ⟨?_⟩
    simp only [wfAL, wfA, wfS, wfM, wfB, and_true, true_and, wfT_int, wfT_str, wfT_bool, wfT_prod] at hw hwm
    obtain ⟨h1, h2, h⟩ := h
    have hf : fitA (lenI l) := by unfold smallC at h1; unfold fitA; omega
    simp only [ifB_def, eqI_def, eqL_def, eqD_def, need_def, true_and, and_true, hf, h1, h2]
    refine ⟨fun y hy => ?_, fun y hy => hy.2.elim⟩
    obtain ⟨out', i', b'⟩ := y
    dsimp only at hy ⊢
    obtain ⟨h3, h5⟩ := hy
    subst h3
    rw [h5]
    exact h
  · exact h.elim
def fits_runq_id : List AV → List Blk → Bool := fun args m => match args, m with | [.view [] (.prod (.int .i64) (.prod (.int .i64) (.prod (.int .i64) (.int .i64)))) _, .vsl 0 0 1 1], [.var [.fn (.func 20) [] [.vptr [] [.bool _]]]] => true | _, _ => false
noncomputable def RW_runq_id : List AV → List Blk → AK → Prop := pickS fits_runq_id runq_idS RW_runq_tw
theorem RWok_runq_id : SpecOK Try.prog 7 RW_runq_id := pickS_ok runq_id_ok RWok_runq_tw
noncomputable def SP_runq_id : List AV → List Blk → AK → Prop := (specV [.sl CodeT] (frameS RW_runq_id))
theorem SPok_runq_id : SpecOK Try.prog 7 SP_runq_id := (specV_ok (frame_ok RWok_runq_id))
noncomputable def specs_runq_id : Specs := (7, SP_runq_id) :: specs_onceq_id
theorem specsOK_runq_id : SpecsOK Try.prog specs_runq_id := specsOK_cons SPok_runq_id specsOK_onceq_id
theorem runE_len {ks : List Rul} {l : List (den CodeT)} (hs : ∀ r ∈ ks, shortR r) : lenI (runE ks l) ≤ lenI l := by
  unfold runE
  exact run_len hs 1000
theorem runE_done {l : List (den CodeT)} (h : lenI l ≤ 200) : onceB allK (runE allK l) = false := by
  unfold runE
  have hd := run_done (l := l) short_all 1000
  generalize runL allK l 1000 = x at hd ⊢
  rcases hd with h1 | h1
  · exact h1
  · have := lenI_nn x; omega
theorem runL_zero {ks : List Rul} {l : List (den CodeT)} : runL ks l 0 = l := rfl
theorem runE_twice {l : List (den CodeT)} (h : lenI l ≤ 200) : runE allK (runE allK l) = runE allK l := by
  have hd := runE_done h
  generalize runE allK l = x at hd ⊢
  exact run_at (n := 0) (by omega) runL_zero hd
theorem short_one {r : Rul} (h : shortR r) : ∀ q ∈ [r], shortR q := fun q hq => by
  simp only [List.mem_cons, List.not_mem_nil, or_false] at hq
  subst hq
  exact h
theorem shorter_fin {r : Rul} {l : List (den CodeT)} (h : shortR r) (hl : lenI l ≤ 200) : smallC (runE [r] l) ∧ selB (selB (selB (leB (lenI (runE allK l)) (lenI l)) (sameC (runE allK l) (runE allK (runE allK l))) false) (leB (lenI (runE [r] l)) (lenI l)) false) (leB (lenI (runE allK (runE [r] l))) (lenI (runE [r] l))) false = true := by
  have h1 := runE_len (l := l) short_all
  have h2 := runE_len (l := l) (short_one h)
  have h3 := runE_len (l := runE [r] l) short_all
  have h4 := runE_twice hl
  generalize runE allK l = x at h1 h4 ⊢
  generalize runE [r] l = y at h2 h3 ⊢
  rw [h4]
  generalize runE allK y = z at h3 ⊢
  refine ⟨by unfold smallC; omega, ?_⟩
  rw [leB_t.2 h1, leB_t.2 h2, leB_t.2 h3]
  unfold sameC
  simp [selB]
theorem smallA {l : List (den CodeT)} (hl : lenI l ≤ 200) : smallC (runE allK l) := by
  have h1 := runE_len (l := l) short_all
  generalize runE allK l = x at h1 ⊢
  unfold smallC; omega
theorem band_rng (p : Int) : 0 ≤ bandW .i64 p 1023 ∧ bandW .i64 p 1023 ≤ 1023 := by
  have e4 : (BitVec.ofInt 64 (1023 : Int)).toNat = 2 ^ 10 - 1 := by decide
  have e5 : bandW .i64 p 1023 = IntKind.wrap .i64 ((BitVec.ofInt 64 p &&& BitVec.ofInt 64 1023).toNat : Int) := rfl
  rw [e5, BitVec.toNat_and, e4, Nat.and_two_pow_sub_one_eq_mod]
  have h := Nat.mod_lt (BitVec.ofInt 64 p).toNat (show 0 < 2 ^ 10 by decide)
  rw [wrap64 (by omega) (by omega)]
  omega
end Go.Proofs.Ytkdemkkepepbdaa.Sx

