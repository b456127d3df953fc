/- Once, and as long as a rule says so: all rules. -/
import Derived.Test.YtkdemkkepepbdaaSmPeepD
namespace Go.Proofs.Ytkdemkkepepbdaa.Sx
open Go.RowKit
set_option maxRecDepth 100000
set_option maxHeartbeats 4000000
set_option linter.unusedVariables false
set_option linter.unusedSimpArgs false
def fromE (ks : List Rul) (l : List (den CodeT)) (i : Int) : Prop := onceR ks l (lenI l - i).toNat i = onceR ks l l.length 0
def runL (ks : List Rul) (l : List (den CodeT)) (n : Nat) : List (den CodeT) := Nat.rec l (fun _ r => if onceB ks r then onceL ks r else r) n
def runE (ks : List Rul) (l : List (den CodeT)) : List (den CodeT) := runL ks l 1000
theorem from_zero {ks : List Rul} {l : List (den CodeT)} : fromE ks l 0 := by
  unfold fromE lenI; congr 1
theorem from_some {ks : List Rul} {l : List (den CodeT)} {i : Int} (h0 : 0 ≤ i) (h1 : i < lenI l) (h : fromE ks l i) (hb : pickB ks l i = true) : onceB ks l = true ∧ onceL ks l = pickL ks l i := by
  unfold fromE at h
  obtain ⟨f, hf⟩ : ∃ f, (lenI l - i).toNat = f + 1 := ⟨(lenI l - i).toNat - 1, by omega⟩
  unfold pickB at hb
  unfold pickL onceB onceL
  rw [← h, hf]
  unfold onceR
  cases hp : pickR ks l i with
  | none => rw [hp] at hb; cases hb
  | some r => simp
theorem from_next {ks : List Rul} {l : List (den CodeT)} {i : Int} (h0 : 0 ≤ i) (h1 : i < lenI l) (h : fromE ks l i) (hb : pickB ks l i = false) : fromE ks l (i + 1) := by
  unfold fromE at *
  obtain ⟨f, hf⟩ : ∃ f, (lenI l - i).toNat = f + 1 := ⟨(lenI l - i).toNat - 1, by omega⟩
  have hf2 : (lenI l - (i + 1)).toNat = f := by omega
  rw [← h, hf, hf2]
  unfold pickB at hb
  conv => rhs; unfold onceR
  cases hp : pickR ks l i with
  | none => rfl
  | some r => rw [hp] at hb; cases hb
theorem from_end {ks : List Rul} {l : List (den CodeT)} {i : Int} (h1 : lenI l ≤ i) (h : fromE ks l i) : onceB ks l = false ∧ onceL ks l = l := by
  unfold fromE at h
  have hf : (lenI l - i).toNat = 0 := by omega
  unfold onceB onceL
  rw [← h, hf]
  exact ⟨rfl, rfl⟩
abbrev X_onceI := List (den CodeT) × List (den CodeT) × Int × Int × List (den CodeT) × Bool
def sh_onceI : X_onceI → St := fun x => match x with | (l, lent, n, i, r4, r5) => ⟨setL (rep .bad 63) [(0, .view [] CodeT l), (6, .view [] CodeT lent), (16, .int .i64 n), (17, .int .i64 i), (1, .vsl 0 0 7 7)], [.var R7], [], []⟩
def shr_onceI : X_onceI → St := fun x => match x with | (l, lent, n, i, r4, r5) => ⟨setL (rep .bad 63) [(0, .view [] CodeT l), (6, .view [] CodeT lent), (16, .int .i64 n), (17, .int .i64 i), (4, .view [] CodeT r4), (5, .bool r5), (1, .vsl 0 0 7 7)], [.var R7], [], []⟩
def sx_onceI : AExit → X_onceI → St := fun e => match e with | .ret => shr_onceI | _ => sh_onceI
def nx_onceI (σ : St) : X_onceI := (gV CodeT σ 0, gV CodeT σ 6, gI σ 16, gI σ 17, gV CodeT σ 4, gB σ 5)
def Pre_onceI : X_onceI → Prop := fun x => match x with | (l, lent, n, i, r4, r5) => i = 0 ∧ n = lenI l ∧ lent = l ∧ smallC l
def E0_onceI : X_onceI → X_onceI → Prop := fun x y => match x, y with | (l0, lent0, n0, i0, r40, r50), (l, lent, n, i, r4, r5) => (l = l0 ∧ lent = lent0 ∧ n = n0) ∧ (onceB allK l = false ∧ onceL allK l = l)
def R_onceI : X_onceI → X_onceI → Prop := fun x y => match x, y with | (l0, lent0, n0, i0, r40, r50), (l, lent, n, i, r4, r5) => (l = l0 ∧ lent = lent0 ∧ n = n0) ∧ (onceB allK l = true ∧ r4 = onceL allK l ∧ r5 = true)
def D_onceI : X_onceI → LEnds X_onceI := fun x => ⟨[(0, E0_onceI x)], R_onceI x⟩
noncomputable def S_onceI : Summ := summN sh_onceI sx_onceI nx_onceI Pre_onceI D_onceI
def Inv_onceI : X_onceI → X_onceI → Prop := fun x y => match x, y with | (l0, lent0, n0, i0, r40, r50), (l, lent, n, i, r4, r5) => (l = l0 ∧ lent = lent0 ∧ n = n0) ∧ ((0 ≤ i ∧ i ≤ n) ∧ fromE allK l i)
def M_onceI : X_onceI → X_onceI → Nat := fun x y => match x, y with | (l0, lent0, n0, i0, r40, r50), (l, lent, n, i, r4, r5) => (n - i).toNat
theorem body_onceI (Inv : X_onceI → Prop) (meas : X_onceI → Nat) (nn : Nat) (EE0 RR : X_onceI → Prop) (l : List (den CodeT)) (lent : List (den CodeT)) (n : Int) (i : Int) (r4 : List (den CodeT)) (r5 : Bool) : awp tab fs_concat (acall tab fs_concat specs_grow fns 100 20) [(6, S_onceJ)] 100 (loopAt Try.f14 3) (bodyN sh_onceI sx_onceI nx_onceI Inv meas nn ⟨[(0, EE0)], RR⟩) (sh_onceI (l, lent, n, i, r4, r5)) =
  (ifB (ltB i n) (eqDr l (needr (AV.vsl 0 0 7 7) (eqDr lent (eqIr i (eqIr n (eqIr i (needr (AV.vsl 0 0 7 7) (eqIr 7 (eqIr 0 (needr (AV.fn (Fn.func 16) ([]) (AV.vptr
    [] (AV.view [] CodeT (@List.nil (den CodeT)) :: []) :: AV.vptr [] (AV.int IntKind.i64 3 :: []) :: [])) (needr (AV.fn (Fn.func 16) ([]) (AV.vptr [] (AV.view [] CodeT
    (((1 : Int), (0 : Int), (0 : Int), (0 : Int)) :: @List.nil (den CodeT)) :: []) :: AV.vptr [] (AV.int IntKind.i64 0 :: []) :: [])) (needr (AV.fn (Fn.func 16) ([])
    (AV.vptr [] (AV.view [] CodeT (((0 : Int), (0 : Int), (0 : Int), (0 : Int)) :: @List.nil (den CodeT)) :: []) :: AV.vptr [] (AV.int IntKind.i64 1 :: []) :: [])) (needr
    (AV.fn (Fn.func 18) ([]) (AV.vptr [] (AV.bool false :: []) :: [])) (needr (AV.fn (Fn.func 18) ([]) (AV.vptr [] (AV.bool true :: []) :: [])) (needr (AV.fn (Fn.func
    20) ([]) (AV.vptr [] (AV.bool false :: []) :: [])) (needr (AV.fn (Fn.func 20) ([]) (AV.vptr [] (AV.bool true :: []) :: [])) (((0 : Int) = 0 ∧ inI i (lenI l) ∧ lent
    = l ∧ smallC l) ∧ ((∀ (y : X_onceJ), (y.1 = l ∧ y.2.1 = lent ∧ y.2.2.1 = i ∧ y.2.2.2.1 = n ∧ y.2.2.2.2.1 = i) ∧ pickB allK y.1 y.2.2.1 = false → eqDr y.1 (needr
    (AV.vsl 0 0 7 7) (eqDr y.2.1 (eqIr y.2.2.2.1 (eqIr (addW IntKind.i64 y.2.2.2.2.1 1) (needr (AV.fn (Fn.func 16) ([]) (AV.vptr [] (AV.view [] CodeT (@List.nil (den
    CodeT)) :: []) :: AV.vptr [] (AV.int IntKind.i64 3 :: []) :: [])) (needr (AV.fn (Fn.func 16) ([]) (AV.vptr [] (AV.view [] CodeT (((1 : Int), (0 : Int), (0 : Int),
    (0 : Int)) :: @List.nil (den CodeT)) :: []) :: AV.vptr [] (AV.int IntKind.i64 0 :: []) :: [])) (needr (AV.fn (Fn.func 16) ([]) (AV.vptr [] (AV.view [] CodeT (((0
    : Int), (0 : Int), (0 : Int), (0 : Int)) :: @List.nil (den CodeT)) :: []) :: AV.vptr [] (AV.int IntKind.i64 1 :: []) :: [])) (needr (AV.fn (Fn.func 18) ([]) (AV.vptr
    [] (AV.bool false :: []) :: [])) (needr (AV.fn (Fn.func 18) ([]) (AV.vptr [] (AV.bool true :: []) :: [])) (needr (AV.fn (Fn.func 20) ([]) (AV.vptr [] (AV.bool false
    :: []) :: [])) (needr (AV.fn (Fn.func 20) ([]) (AV.vptr [] (AV.bool true :: []) :: [])) (Inv (y.1, y.2.1, y.2.2.2.1, addW IntKind.i64 y.2.2.2.2.1 1, @List.nil (den
    CodeT), false) ∧ meas (y.1, y.2.1, y.2.2.2.1, addW IntKind.i64 y.2.2.2.2.1 1, @List.nil (den CodeT), false) < nn))))))))))))) ∧ True) ∧ ∀ (y : X_onceJ), (y.1 = l
    ∧ y.2.1 = lent ∧ y.2.2.1 = i ∧ y.2.2.2.1 = n ∧ y.2.2.2.2.1 = i) ∧ pickB allK y.1 y.2.2.1 = true ∧ y.2.2.2.2.2.2.1 = pickL allK y.1 y.2.2.1 ∧ y.2.2.2.2.2.2.2 = true
    → eqDr y.1 (needr (AV.vsl 0 0 7 7) (eqDr y.2.2.2.2.2.2.1 (eqLr y.2.2.2.2.2.2.2 (eqDr y.2.1 (eqIr y.2.2.2.1 (eqIr y.2.2.2.2.1 (needr (AV.fn (Fn.func 16) ([]) (AV.vptr
    [] (AV.view [] CodeT (@List.nil (den CodeT)) :: []) :: AV.vptr [] (AV.int IntKind.i64 3 :: []) :: [])) (needr (AV.fn (Fn.func 16) ([]) (AV.vptr [] (AV.view [] CodeT
    (((1 : Int), (0 : Int), (0 : Int), (0 : Int)) :: @List.nil (den CodeT)) :: []) :: AV.vptr [] (AV.int IntKind.i64 0 :: []) :: [])) (needr (AV.fn (Fn.func 16) ([])
    (AV.vptr [] (AV.view [] CodeT (((0 : Int), (0 : Int), (0 : Int), (0 : Int)) :: @List.nil (den CodeT)) :: []) :: AV.vptr [] (AV.int IntKind.i64 1 :: []) :: [])) (needr
    (AV.fn (Fn.func 18) ([]) (AV.vptr [] (AV.bool false :: []) :: [])) (needr (AV.fn (Fn.func 18) ([]) (AV.vptr [] (AV.bool true :: []) :: [])) (needr (AV.fn (Fn.func
    20) ([]) (AV.vptr [] (AV.bool false :: []) :: [])) (needr (AV.fn (Fn.func 20) ([]) (AV.vptr [] (AV.bool true :: []) :: [])) (RR (y.1, y.2.1, y.2.2.2.1, y.2.2.2.2.1,
    y.2.2.2.2.2.2.1, y.2.2.2.2.2.2.2)))))))))))))))))))))))))))))))) (eqDr l (needr (AV.vsl 0 0 7 7) (eqDr lent (eqIr n (eqIr i (needr (AV.fn (Fn.func 16) ([]) (AV.vptr
    [] (AV.view [] CodeT (@List.nil (den CodeT)) :: []) :: AV.vptr [] (AV.int IntKind.i64 3 :: []) :: [])) (needr (AV.fn (Fn.func 16) ([]) (AV.vptr [] (AV.view [] CodeT
    (((1 : Int), (0 : Int), (0 : Int), (0 : Int)) :: @List.nil (den CodeT)) :: []) :: AV.vptr [] (AV.int IntKind.i64 0 :: []) :: [])) (needr (AV.fn (Fn.func 16) ([])
    (AV.vptr [] (AV.view [] CodeT (((0 : Int), (0 : Int), (0 : Int), (0 : Int)) :: @List.nil (den CodeT)) :: []) :: AV.vptr [] (AV.int IntKind.i64 1 :: []) :: [])) (needr
    (AV.fn (Fn.func 18) ([]) (AV.vptr [] (AV.bool false :: []) :: [])) (needr (AV.fn (Fn.func 18) ([]) (AV.vptr [] (AV.bool true :: []) :: [])) (needr (AV.fn (Fn.func
    20) ([]) (AV.vptr [] (AV.bool false :: []) :: [])) (needr (AV.fn (Fn.func 20) ([]) (AV.vptr [] (AV.bool true :: []) :: [])) (EE0 (l, lent, n, i, @List.nil (den CodeT),
    false))))))))))))))) := by kernel_rfl
theorem body_onceI_ok : ∀ x y, Pre_onceI x → Inv_onceI x y → wfS (sh_onceI y) → Hd (awp tab fs_concat (acall tab fs_concat specs_grow fns 100 20) [(6, S_onceJ)] 100 (loopAt Try.f14 3) (bodyN sh_onceI sx_onceI nx_onceI (Inv_onceI x) (M_onceI x) (M_onceI x y) (D_onceI x)) (sh_onceI y)) := by
  rintro ⟨l0, lent0, n0, i0, r40, r50⟩ ⟨l, lent, n, i, r4, r5⟩ hp hI hw
  obtain ⟨⟨rfl, rfl, rfl⟩, hI⟩ := hI
  have hw_l := wfL_view hw 0 rfl
  have hw_lent := wfL_view hw 6 rfl
  have hw_n := wfL_int hw 16 rfl
  have hw_i := wfL_int hw 17 rfl
  have hp : i0 = 0 ∧ n = lenI l ∧ lent = l ∧ smallC l := hp
  unfold D_onceI
  rw [body_onceI]
  refine ⟨?_⟩
  have hInv : ∀ (i : Int) (r4 : List (den CodeT)) (r5 : Bool), ((0 ≤ i ∧ i ≤ n) ∧ fromE allK l i) → Inv_onceI (l, lent, n, i0, r40, r50) (l, lent, n, i, r4, r5) := fun _ _ _ h => ⟨⟨rfl, rfl, rfl⟩, h⟩
  generalize hIe : Inv_onceI (l, lent, n, i0, r40, r50) = Inv at hInv ⊢
  have hMe : ∀ (i : Int) (r4 : List (den CodeT)) (r5 : Bool), M_onceI (l, lent, n, i0, r40, r50) (l, lent, n, i, r4, r5) = (n - i).toNat := fun _ _ _ => rfl
  generalize M_onceI (l, lent, n, i0, r40, r50) = Me at hMe ⊢
  have hE0 : ∀ (i : Int) (r4 : List (den CodeT)) (r5 : Bool), (onceB allK l = false ∧ onceL allK l = l) → E0_onceI (l, lent, n, i0, r40, r50) (l, lent, n, i, r4, r5) := fun _ _ _ h => ⟨⟨rfl, rfl, rfl⟩, h⟩
  generalize E0_onceI (l, lent, n, i0, r40, r50) = EE0 at hE0 ⊢
  have hR : ∀ (i : Int) (r4 : List (den CodeT)) (r5 : Bool), (onceB allK l = true ∧ r4 = onceL allK l ∧ r5 = true) → R_onceI (l, lent, n, i0, r40, r50) (l, lent, n, i, r4, r5) := fun _ _ _ h => ⟨⟨rfl, rfl, rfl⟩, h⟩
  generalize R_onceI (l, lent, n, i0, r40, r50) = RR at hR ⊢
  obtain ⟨hi, hI⟩ := hI
  obtain ⟨p1, rfl, hll, hsm⟩ := hp
  have hll := hll.symm
  subst hll
  have hlen := wfT_len hw_l
  by_cases hlt : i < lenI l
  · have ei : addW .i64 i 1 = i + 1 := addW64 (by omega) (by omega)
    rw [ltB_t.2 hlt]
    simp only [ifB_def, eqI_def, eqL_def, eqD_def, need_def, true_and, and_true, reduceCtorEq, false_implies, true_implies]
    refine ⟨⟨⟨hi.1, hlt⟩, hsm⟩, ?_, ?_⟩
    · rintro ⟨l', lent', i', n', i2', j', r4', r5'⟩ ⟨hk, hb⟩
      dsimp only at hk hb ⊢
      obtain ⟨rfl, rfl, rfl, rfl, hii⟩ := hk
      subst hii
      rw [ei]
      exact ⟨hInv _ _ _ ⟨⟨by omega, by omega⟩, from_next hi.1 hlt hI hb⟩, by simp only [hMe]; omega⟩
    · rintro ⟨l', lent', i', n', i2', j', r4', r5'⟩ ⟨hk, hb, hr4, hr5⟩
      dsimp only at hk hb hr4 hr5 ⊢
      obtain ⟨rfl, rfl, rfl, rfl, hii⟩ := hk
      subst hii
      have hs := from_some hi.1 hlt hI hb
      exact hR _ _ _ ⟨hs.1, hr4.trans hs.2.symm, hr5⟩
  · rw [ltB_f.2 (Int.not_lt.1 hlt)]
    have he := from_end (by omega) hI
    simp only [simpsL, implies_true, forall_const, if_true, if_false, reduceCtorEq]
    exact hE0 _ _ _ he
theorem lok_onceI : LoopsOK Try.prog [(6, S_onceJ)] (loopAt Try.f14 3) := loopsOK_at (by kernel_rfl) fun k S h => by
  simp only [List.mem_cons, Prod.mk.injEq, List.not_mem_nil, or_false] at h
  obtain ⟨rfl, rfl⟩ := h
  exact (by kernel_rfl : findLoop (loopsOf (loopAt Try.f14 3)) 6 = loopAt Try.f14 6) ▸ summ_onceJ
theorem summ_onceI : SummOK Try.prog (loopAt Try.f14 3) S_onceI :=
  summN_ok (L := [(6, S_onceJ)]) (fuel := 100) tabOK fsOK_concat (mkCall fsOK_concat specsOK_grow fnsOK) (fun C => mkDraw fsOK_concat (mkCall fsOK_concat specsOK_grow fnsOK) C) lok_onceI Inv_onceI M_onceI
    (fun x hp hw => by
      obtain ⟨l, lent, n, i, r4, r5⟩ := x
      have hp : i = 0 ∧ n = lenI l ∧ lent = l ∧ smallC l := hp
      have hw_l := wfL_view hw 0 rfl
      have hw_lent := wfL_view hw 6 rfl
      have hw_n := wfL_int hw 16 rfl
      have hw_i := wfL_int hw 17 rfl
      obtain ⟨rfl, rfl, rfl, _⟩ := hp
      exact ⟨⟨rfl, rfl, rfl⟩, ⟨by omega, lenI_nn _⟩, from_zero⟩)
    (body_onceI_ok)
noncomputable def fns_once7 : Fns := (14, Try.f14, [(3, S_onceI)]) :: fns
theorem fn_once7 : FnOK Try.prog 14 Try.f14 [(3, S_onceI)] := fnOK_loops Try.func14 (fun vs w => Try.call14 vs w) (by kernel_rfl) fun k S h => by
  simp only [List.mem_cons, Prod.mk.injEq, List.not_mem_nil, or_false] at h
  obtain ⟨rfl, rfl⟩ := h
  exact summ_onceI
theorem fns_once7OK : FnsOK Try.prog fns_once7 := fnsOK_cons fn_once7 fnsOK
noncomputable def once7S : List AV → List Blk → AK → Prop := fun args m K => match args, m with | [.view [] (.prod (.int .i64) (.prod (.int .i64) (.prod (.int .i64) (.int .i64)))) l, .vsl 0 0 7 7], [.var rs] => need (rs = R7) (need (smallC l) (K (.ret (.tup [.view [] CodeT (onceL allK l), .bool (onceB allK l)])) [.var R7] [] [])) | _, _ => False
theorem once7_eq (K : AK) (l : List (den CodeT)) : acall tab fs_concat specs_grow fns_once7 100 20 14 [.view [] CodeT l, .vsl 0 0 7 7] [.var R7] (frzK (mlen [.var R7]) (.ag [.sl CodeT, .any]) [] [] K) =
  (need (fitA (lenI l)) (eqDr l (needr (AV.vsl 0 0 7 7) (eqDr l (eqIr (lenI l) (eqIr 0 (needr (AV.fn (Fn.func 16) ([]) (AV.vptr [] (AV.view [] CodeT (@List.nil (den
    CodeT)) :: []) :: AV.vptr [] (AV.int IntKind.i64 3 :: []) :: [])) (needr (AV.fn (Fn.func 16) ([]) (AV.vptr [] (AV.view [] CodeT (((1 : Int), (0 : Int), (0 : Int),
    (0 : Int)) :: @List.nil (den CodeT)) :: []) :: AV.vptr [] (AV.int IntKind.i64 0 :: []) :: [])) (needr (AV.fn (Fn.func 16) ([]) (AV.vptr [] (AV.view [] CodeT (((0
    : Int), (0 : Int), (0 : Int), (0 : Int)) :: @List.nil (den CodeT)) :: []) :: AV.vptr [] (AV.int IntKind.i64 1 :: []) :: [])) (needr (AV.fn (Fn.func 18) ([]) (AV.vptr
    [] (AV.bool false :: []) :: [])) (needr (AV.fn (Fn.func 18) ([]) (AV.vptr [] (AV.bool true :: []) :: [])) (needr (AV.fn (Fn.func 20) ([]) (AV.vptr [] (AV.bool false
    :: []) :: [])) (needr (AV.fn (Fn.func 20) ([]) (AV.vptr [] (AV.bool true :: []) :: [])) (((0 : Int) = 0 ∧ lenI l = lenI l ∧ l = l ∧ smallC l) ∧ ((∀ (y : X_onceI),
    (y.1 = l ∧ y.2.1 = l ∧ y.2.2.1 = lenI l) ∧ onceB allK y.1 = false ∧ onceL allK y.1 = y.1 → K (AOut.ret (AV.tup (AV.view [] CodeT y.1 :: AV.bool false :: []))) (Blk.var
    (AV.fn (Fn.func 16) ([]) (AV.vptr [] (AV.view [] CodeT (@List.nil (den CodeT)) :: []) :: AV.vptr [] (AV.int IntKind.i64 3 :: []) :: []) :: AV.fn (Fn.func 16) ([])
    (AV.vptr [] (AV.view [] CodeT (((1 : Int), (0 : Int), (0 : Int), (0 : Int)) :: @List.nil (den CodeT)) :: []) :: AV.vptr [] (AV.int IntKind.i64 0 :: []) :: []) ::
    AV.fn (Fn.func 16) ([]) (AV.vptr [] (AV.view [] CodeT (((0 : Int), (0 : Int), (0 : Int), (0 : Int)) :: @List.nil (den CodeT)) :: []) :: AV.vptr [] (AV.int IntKind.i64
    1 :: []) :: []) :: AV.fn (Fn.func 18) ([]) (AV.vptr [] (AV.bool false :: []) :: []) :: AV.fn (Fn.func 18) ([]) (AV.vptr [] (AV.bool true :: []) :: []) :: AV.fn (Fn.func
    20) ([]) (AV.vptr [] (AV.bool false :: []) :: []) :: AV.fn (Fn.func 20) ([]) (AV.vptr [] (AV.bool true :: []) :: []) :: []) :: []) [] []) ∧ True) ∧ ∀ (y : X_onceI),
    (y.1 = l ∧ y.2.1 = l ∧ y.2.2.1 = lenI l) ∧ onceB allK y.1 = true ∧ y.2.2.2.2.1 = onceL allK y.1 ∧ y.2.2.2.2.2 = true → K (AOut.ret (AV.tup (AV.view [] CodeT y.2.2.2.2.1
    :: AV.bool y.2.2.2.2.2 :: []))) (Blk.var (AV.fn (Fn.func 16) ([]) (AV.vptr [] (AV.view [] CodeT (@List.nil (den CodeT)) :: []) :: AV.vptr [] (AV.int IntKind.i64
    3 :: []) :: []) :: AV.fn (Fn.func 16) ([]) (AV.vptr [] (AV.view [] CodeT (((1 : Int), (0 : Int), (0 : Int), (0 : Int)) :: @List.nil (den CodeT)) :: []) :: AV.vptr
    [] (AV.int IntKind.i64 0 :: []) :: []) :: AV.fn (Fn.func 16) ([]) (AV.vptr [] (AV.view [] CodeT (((0 : Int), (0 : Int), (0 : Int), (0 : Int)) :: @List.nil (den CodeT))
    :: []) :: AV.vptr [] (AV.int IntKind.i64 1 :: []) :: []) :: AV.fn (Fn.func 18) ([]) (AV.vptr [] (AV.bool false :: []) :: []) :: AV.fn (Fn.func 18) ([]) (AV.vptr
    [] (AV.bool true :: []) :: []) :: AV.fn (Fn.func 20) ([]) (AV.vptr [] (AV.bool false :: []) :: []) :: AV.fn (Fn.func 20) ([]) (AV.vptr [] (AV.bool true :: []) ::
    []) :: []) :: []) [] [])))))))))))))) := by kernel_rfl
theorem once7_ok : SpecOK Try.prog 14 once7S := specOKF_of (mkCall fsOK_concat specsOK_grow fns_once7OK) (.ag [.sl CodeT, .any]) [] [] (fun vs w => Try.call14 vs w) fun args m K h hw hwm => by
  unfold once7S at h
  split at h
  · rename_i l rs
    obtain ⟨hlet, h⟩ := h
    subst hlet
    rw [once7_eq]
    refine ⟨?_⟩
    simp only [wfAL, wfA, wfS, wfM, wfB, and_true, true_and, wfT_int, wfT_str, wfT_bool, wfT_prod] at hw hwm
    obtain ⟨h1, h⟩ := h
    have hf : fitA (lenI l) := by unfold smallC at h1; unfold fitA; omega
    simp only [ifB_def, eqI_def, eqL_def, eqD_def, need_def, true_and, and_true, hf, h1]
    refine ⟨fun y hy => ?_, fun y hy => ?_⟩
    · obtain ⟨l', lent', n', i', r4', r5'⟩ := y
      dsimp only at hy ⊢
      obtain ⟨⟨rfl, rfl, rfl⟩, hb, hl⟩ := hy
      rw [hb, hl] at h
      exact h
    · obtain ⟨l', lent', n', i', r4', r5'⟩ := y
      dsimp only at hy ⊢
      obtain ⟨⟨rfl, rfl, rfl⟩, hb, hl, hr⟩ := hy
      rw [hb] at h
      rw [hl, hr]
      exact h
  · exact h.elim
noncomputable def SP_once7 : List AV → List Blk → AK → Prop := (specV [.sl CodeT] (frameS once7S))
theorem SPok_once7 : SpecOK Try.prog 14 SP_once7 := (specV_ok (frame_ok once7_ok))
noncomputable def specs_once7 : Specs := (14, SP_once7) :: specs_grow
theorem specsOK_once7 : SpecsOK Try.prog specs_once7 := specsOK_cons SPok_once7 specsOK_grow
def shortR (r : Rul) : Prop := match r with | .tu to _ => lenI to ≤ 1 | _ => True
theorem good_len {r : Rul} {l : List (den CodeT)} {i : Int} (hs : shortR r) (h : goodR r l i = true) : 0 ≤ lenI (rulF r l i).1 ∧ lenI (rulF r l i).1 < (rulF r l i).2.1 ∧ (rulF r l i).2.1 ≤ lenI l - i := by
  unfold goodR at h
  simp only [Bool.and_eq_true, decide_eq_true_eq] at h
  refine ⟨lenI_nn _, ?_, h.2⟩
  obtain ⟨⟨h1, h2⟩, h3⟩ := h
  cases r with
  | tu to f => have hs : lenI to ≤ 1 := hs; show lenI to < 2; omega
  | tw b =>
    have h1 : twinsC b l i = true := h1
    show lenI (twinsL b l i) < twinsN b l i
    unfold twinsN; rw [if_pos h1]
    have : lenI (twinsL b l i) ≤ 2 := tw_le
    omega
  | id b =>
    have h2 : 1 ≤ idleN l i := h2
    show lenI (idleL b l i) < idleN l i
    unfold idleN at h2 ⊢
    split at h2
    · rename_i ha
      rw [if_pos ha]
      unfold idleL; split <;> simp [lenI]
    · omega
theorem put_len {l by_ : List (den CodeT)} {i n : Int} (h0 : 0 ≤ i) (h1 : lenI by_ < n) (h2 : n ≤ lenI l - i) (hb : 0 ≤ lenI by_) : lenI (putC l i by_ n) < lenI l := by
  unfold putC
  rw [lenI_app, lenI_app, subL_le (by omega) (by omega) (by omega), subL_le (by omega) (by omega) (by omega)]
  omega
theorem pick_len : ∀ {ks : List Rul} {l x : List (den CodeT)} {i : Int}, (∀ r ∈ ks, shortR r) → 0 ≤ i → pickR ks l i = some x → lenI x < lenI l
  | [], l, x, i, _, _, h => by cases h
  | r :: ks, l, x, i, hs, h0, h => by
    rw [pick_cons] at h
    split at h
    · rename_i hg
      cases h
      have := good_len (hs r (by simp)) hg
      exact put_len h0 this.2.1 this.2.2 this.1
    · exact pick_len (fun q hq => hs q (by simp [hq])) h0 h
theorem onceR_len {ks : List Rul} {l x : List (den CodeT)} (hs : ∀ r ∈ ks, shortR r) : ∀ {f : Nat} {i : Int}, 0 ≤ i → onceR ks l f i = some x → lenI x < lenI l
  | 0, i, _, h => by cases h
  | f + 1, i, h0, h => by
    unfold onceR at h
    cases hp : pickR ks l i with
    | some r => rw [hp] at h; cases h; exact pick_len hs h0 hp
    | none => rw [hp] at h; exact onceR_len hs (by omega) h
theorem once_len {ks : List Rul} {l : List (den CodeT)} (hs : ∀ r ∈ ks, shortR r) (h : onceB ks l = true) : lenI (onceL ks l) < lenI l := by
  unfold onceB at h
  unfold onceL
  cases hp : onceR ks l l.length 0 with
  | none => rw [hp] at h; cases h
  | some x => exact onceR_len hs (by omega) hp
theorem short_all : ∀ r ∈ allK, shortR r := by
  unfold allK shortR
  simp [lenI]
theorem run_succ {ks : List Rul} {l : List (den CodeT)} {n : Nat} : runL ks l (n + 1) = if onceB ks (runL ks l n) = true then onceL ks (runL ks l n) else runL ks l n := rfl
theorem run_stop {ks : List Rul} {l : List (den CodeT)} {n : Nat} (h : onceB ks (runL ks l n) = false) : ∀ m, runL ks l (n + m) = runL ks l n
  | 0 => rfl
  | m + 1 => by
    have e : n + (m + 1) = (n + m) + 1 := by omega
    rw [e, run_succ, run_stop h m, h]; rfl
theorem run_len {ks : List Rul} {l : List (den CodeT)} (hs : ∀ r ∈ ks, shortR r) : ∀ n, lenI (runL ks l n) ≤ lenI l
  | 0 => Int.le_refl _
  | n + 1 => by
    have ih := run_len (l := l) hs n
    rw [run_succ]
    split
    · rename_i h; have := once_len hs h; omega
    · exact ih
theorem run_done {ks : List Rul} {l : List (den CodeT)} (hs : ∀ r ∈ ks, shortR r) : ∀ n : Nat, onceB ks (runL ks l n) = false ∨ lenI (runL ks l n) + n ≤ lenI l
  | 0 => .inr (by show lenI l + 0 ≤ lenI l; omega)
  | n + 1 => by
    cases hb : onceB ks (runL ks l n) with
    | false =>
      left
      rw [run_succ, hb]
      simp [hb]
    | true =>
      rcases run_done (l := l) hs n with h | h
      · rw [h] at hb; cases hb
      · have := once_len hs hb
        rw [run_succ, hb]
        cases hc : onceB ks (onceL ks (runL ks l n)) with
        | false => left; simpa using hc
        | true => right; simp only [if_true]; omega
abbrev X_run7 := List (den CodeT) × Int
def sh_run7 : X_run7 → St := fun x => match x with | (out, i) => ⟨setL (rep .bad 23) [(5, .view [] CodeT out), (10, .int .i64 i), (1, .vsl 0 0 7 7)], [.var R7], [], []⟩
def sx_run7 : AExit → X_run7 → St := fun _ => sh_run7
def nx_run7 (σ : St) : X_run7 := (gV CodeT σ 5, gI σ 10)
def Pre_run7 : X_run7 → Prop := fun x => match x with | (out, i) => i = 0 ∧ smallC out
def E0_run7 : X_run7 → X_run7 → Prop := fun x y => match x, y with | (out0, i0), (out, i) => (out = runE allK out0)
def R_run7 : X_run7 → X_run7 → Prop := fun x y => match x, y with | (out0, i0), (out, i) => (False)
def D_run7 : X_run7 → LEnds X_run7 := fun x => ⟨[(0, E0_run7 x)], R_run7 x⟩
noncomputable def S_run7 : Summ := summN sh_run7 sx_run7 nx_run7 Pre_run7 D_run7
def Inv_run7 : X_run7 → X_run7 → Prop := fun x y => match x, y with | (out0, i0), (out, i) => ((0 ≤ i ∧ i ≤ 1000) ∧ out = runL allK out0 i.toNat ∧ smallC out)
def M_run7 : X_run7 → X_run7 → Nat := fun x y => match x, y with | (out0, i0), (out, i) => (1000 - i).toNat
theorem body_run7 (Inv : X_run7 → Prop) (meas : X_run7 → Nat) (nn : Nat) (EE0 RR : X_run7 → Prop) (out : List (den CodeT)) (i : Int) : awp tab fs_concat (acall tab fs_concat specs_once7 fns 100 20) [] 100 (loopAt Try.f7 3) (bodyN sh_run7 sx_run7 nx_run7 Inv meas nn ⟨[(0, EE0)], RR⟩) (sh_run7 (out, i)) =
  (ifB (ltB i 1000) (needr (AV.fn (Fn.func 16) ([]) (AV.vptr [] (AV.view [] CodeT (@List.nil (den CodeT)) :: []) :: AV.vptr [] (AV.int IntKind.i64 3 :: []) :: []) ::
    AV.fn (Fn.func 16) ([]) (AV.vptr [] (AV.view [] CodeT (((1 : Int), (0 : Int), (0 : Int), (0 : Int)) :: @List.nil (den CodeT)) :: []) :: AV.vptr [] (AV.int IntKind.i64
    0 :: []) :: []) :: AV.fn (Fn.func 16) ([]) (AV.vptr [] (AV.view [] CodeT (((0 : Int), (0 : Int), (0 : Int), (0 : Int)) :: @List.nil (den CodeT)) :: []) :: AV.vptr
    [] (AV.int IntKind.i64 1 :: []) :: []) :: AV.fn (Fn.func 18) ([]) (AV.vptr [] (AV.bool false :: []) :: []) :: AV.fn (Fn.func 18) ([]) (AV.vptr [] (AV.bool true ::
    []) :: []) :: AV.fn (Fn.func 20) ([]) (AV.vptr [] (AV.bool false :: []) :: []) :: AV.fn (Fn.func 20) ([]) (AV.vptr [] (AV.bool true :: []) :: []) :: []) (need (smallC
    out) (ifB (notB (onceB allK out)) (needr (AV.vsl 0 0 7 7) (eqDr out (eqIr i (needr (AV.fn (Fn.func 16) ([]) (AV.vptr [] (AV.view [] CodeT (@List.nil (den CodeT))
    :: []) :: AV.vptr [] (AV.int IntKind.i64 3 :: []) :: [])) (needr (AV.fn (Fn.func 16) ([]) (AV.vptr [] (AV.view [] CodeT (((1 : Int), (0 : Int), (0 : Int), (0 : Int))
    :: @List.nil (den CodeT)) :: []) :: AV.vptr [] (AV.int IntKind.i64 0 :: []) :: [])) (needr (AV.fn (Fn.func 16) ([]) (AV.vptr [] (AV.view [] CodeT (((0 : Int), (0
    : Int), (0 : Int), (0 : Int)) :: @List.nil (den CodeT)) :: []) :: AV.vptr [] (AV.int IntKind.i64 1 :: []) :: [])) (needr (AV.fn (Fn.func 18) ([]) (AV.vptr [] (AV.bool
    false :: []) :: [])) (needr (AV.fn (Fn.func 18) ([]) (AV.vptr [] (AV.bool true :: []) :: [])) (needr (AV.fn (Fn.func 20) ([]) (AV.vptr [] (AV.bool false :: []) ::
    [])) (needr (AV.fn (Fn.func 20) ([]) (AV.vptr [] (AV.bool true :: []) :: [])) (EE0 (out, i)))))))))))) (needr (AV.vsl 0 0 7 7) (eqDr (onceL allK out) (eqIr (addW
    IntKind.i64 i 1) (needr (AV.fn (Fn.func 16) ([]) (AV.vptr [] (AV.view [] CodeT (@List.nil (den CodeT)) :: []) :: AV.vptr [] (AV.int IntKind.i64 3 :: []) :: []))
    (needr (AV.fn (Fn.func 16) ([]) (AV.vptr [] (AV.view [] CodeT (((1 : Int), (0 : Int), (0 : Int), (0 : Int)) :: @List.nil (den CodeT)) :: []) :: AV.vptr [] (AV.int
    IntKind.i64 0 :: []) :: [])) (needr (AV.fn (Fn.func 16) ([]) (AV.vptr [] (AV.view [] CodeT (((0 : Int), (0 : Int), (0 : Int), (0 : Int)) :: @List.nil (den CodeT))
    :: []) :: AV.vptr [] (AV.int IntKind.i64 1 :: []) :: [])) (needr (AV.fn (Fn.func 18) ([]) (AV.vptr [] (AV.bool false :: []) :: [])) (needr (AV.fn (Fn.func 18) ([])
    (AV.vptr [] (AV.bool true :: []) :: [])) (needr (AV.fn (Fn.func 20) ([]) (AV.vptr [] (AV.bool false :: []) :: [])) (needr (AV.fn (Fn.func 20) ([]) (AV.vptr [] (AV.bool
    true :: []) :: [])) (Inv (onceL allK out, addW IntKind.i64 i 1) ∧ meas (onceL allK out, addW IntKind.i64 i 1) < nn)))))))))))))) (needr (AV.vsl 0 0 7 7) (eqDr out
    (eqIr i (needr (AV.fn (Fn.func 16) ([]) (AV.vptr [] (AV.view [] CodeT (@List.nil (den CodeT)) :: []) :: AV.vptr [] (AV.int IntKind.i64 3 :: []) :: [])) (needr (AV.fn
    (Fn.func 16) ([]) (AV.vptr [] (AV.view [] CodeT (((1 : Int), (0 : Int), (0 : Int), (0 : Int)) :: @List.nil (den CodeT)) :: []) :: AV.vptr [] (AV.int IntKind.i64
    0 :: []) :: [])) (needr (AV.fn (Fn.func 16) ([]) (AV.vptr [] (AV.view [] CodeT (((0 : Int), (0 : Int), (0 : Int), (0 : Int)) :: @List.nil (den CodeT)) :: []) ::
    AV.vptr [] (AV.int IntKind.i64 1 :: []) :: [])) (needr (AV.fn (Fn.func 18) ([]) (AV.vptr [] (AV.bool false :: []) :: [])) (needr (AV.fn (Fn.func 18) ([]) (AV.vptr
    [] (AV.bool true :: []) :: [])) (needr (AV.fn (Fn.func 20) ([]) (AV.vptr [] (AV.bool false :: []) :: [])) (needr (AV.fn (Fn.func 20) ([]) (AV.vptr [] (AV.bool true
    :: []) :: [])) (EE0 (out, i))))))))))))) := by kernel_rfl
theorem body_run7_ok : ∀ x y, Pre_run7 x → Inv_run7 x y → wfS (sh_run7 y) → Hd (awp tab fs_concat (acall tab fs_concat specs_once7 fns 100 20) [] 100 (loopAt Try.f7 3) (bodyN sh_run7 sx_run7 nx_run7 (Inv_run7 x) (M_run7 x) (M_run7 x y) (D_run7 x)) (sh_run7 y)) := by
  rintro ⟨out0, i0⟩ ⟨out, i⟩ hp hI hw
  have hI : (0 ≤ i ∧ i ≤ 1000) ∧ out = runL allK out0 i.toNat ∧ smallC out := hI
  have hw_out := wfL_view hw 5 rfl
  have hw_i := wfL_int hw 10 rfl
  have hp : i0 = 0 ∧ smallC out0 := hp
  unfold D_run7
  rw [body_run7]
  refine ⟨?_⟩
  have hInv : ∀ (out : List (den CodeT)) (i : Int), ((0 ≤ i ∧ i ≤ 1000) ∧ out = runL allK out0 i.toNat ∧ smallC out) → Inv_run7 (out0, i0) (out, i) := fun _ _ h => h
  generalize hIe : Inv_run7 (out0, i0) = Inv at hInv ⊢
  have hMe : ∀ (out : List (den CodeT)) (i : Int), M_run7 (out0, i0) (out, i) = (1000 - i).toNat := fun _ _ => rfl
  generalize M_run7 (out0, i0) = Me at hMe ⊢
  have hE0 : ∀ (out : List (den CodeT)) (i : Int), (out = runE allK out0) → E0_run7 (out0, i0) (out, i) := fun _ _ h => h
  generalize E0_run7 (out0, i0) = EE0 at hE0 ⊢
  have hR : ∀ (out : List (den CodeT)) (i : Int), (False) → R_run7 (out0, i0) (out, i) := fun _ _ h => h
  generalize R_run7 (out0, i0) = RR at hR ⊢
  obtain ⟨hi, hI, hsm⟩ := hI
  by_cases hlt : i < 1000
  · have ei : addW .i64 i 1 = i + 1 := addW64 (by omega) (by omega)
    have e2 : (i + 1).toNat = i.toNat + 1 := by omega
    rw [ltB_t.2 hlt]
    simp only [ifB_def, eqI_def, eqL_def, eqD_def, need_def, true_and, and_true, reduceCtorEq, false_implies, true_implies, hsm, ei, notB_def, Bool.not_eq_true', Bool.not_eq_false', hMe]
    refine ⟨fun hb => hE0 _ _ ?_, fun hb => ⟨hInv _ _ ⟨⟨by omega, by omega⟩, ?_, ?_⟩, by omega⟩⟩
    · have := run_stop (ks := allK) (l := out0) (n := i.toNat) (by rw [← hI]; exact hb) (1000 - i.toNat)
      have e3 : i.toNat + (1000 - i.toNat) = 1000 := by omega
      rw [e3, ← hI] at this
      exact this.symm
    · rw [e2, run_succ, ← hI, hb]; rfl
    · have := once_len short_all hb; unfold smallC at *; omega
  · have e : i = 1000 := by omega
    subst e
    rw [ltB_f.2 (by omega)]
    simp only [simpsL, implies_true, forall_const, if_true, if_false, reduceCtorEq]
    exact hE0 _ _ hI
theorem summ_run7 : SummOK Try.prog (loopAt Try.f7 3) S_run7 :=
  summN_ok (L := []) (fuel := 100) tabOK fsOK_concat (mkCall fsOK_concat specsOK_once7 fnsOK) (fun C => mkDraw fsOK_concat (mkCall fsOK_concat specsOK_once7 fnsOK) C) loopsOK_nil Inv_run7 M_run7
    (fun x hp hw => by
      obtain ⟨out, i⟩ := x
      have hp : i = 0 ∧ smallC out := hp
      have hw_out := wfL_view hw 5 rfl
      have hw_i := wfL_int hw 10 rfl
      obtain ⟨rfl, h⟩ := hp
      exact ⟨⟨by omega, by omega⟩, rfl, h⟩)
    (body_run7_ok)
noncomputable def fns_run7 : Fns := (7, Try.f7, [(3, S_run7)]) :: fns
theorem fn_run7 : FnOK Try.prog 7 Try.f7 [(3, S_run7)] := fnOK_loops Try.func7 (fun vs w => Try.call7 vs w) (by kernel_rfl) fun k S h => by
  simp only [List.mem_cons, Prod.mk.injEq, List.not_mem_nil, or_false] at h
  obtain ⟨rfl, rfl⟩ := h
  exact summ_run7
theorem fns_run7OK : FnsOK Try.prog fns_run7 := fnsOK_cons fn_run7 fnsOK
noncomputable def run7S : List AV → List Blk → AK → Prop := fun args m K => match args, m with | [.view [] (.prod (.int .i64) (.prod (.int .i64) (.prod (.int .i64) (.int .i64)))) l, .vsl 0 0 7 7], [.var rs] => need (rs = R7) (need (smallC l) (K (.ret (.view [] CodeT (runE allK l))) [.var R7] [] [])) | _, _ => False
theorem run7_eq (K : AK) (l : List (den CodeT)) : acall tab fs_concat specs_once7 fns_run7 100 20 7 [.view [] CodeT l, .vsl 0 0 7 7] [.var R7] (frzK (mlen [.var R7]) (.sl CodeT) [] [] K) =
  (need (fitA (lenI l)) (needr (AV.vsl 0 0 7 7) (eqDr l (eqIr 0 (needr (AV.fn (Fn.func 16) ([]) (AV.vptr [] (AV.view [] CodeT (@List.nil (den CodeT)) :: []) :: AV.vptr
    [] (AV.int IntKind.i64 3 :: []) :: [])) (needr (AV.fn (Fn.func 16) ([]) (AV.vptr [] (AV.view [] CodeT (((1 : Int), (0 : Int), (0 : Int), (0 : Int)) :: @List.nil
    (den CodeT)) :: []) :: AV.vptr [] (AV.int IntKind.i64 0 :: []) :: [])) (needr (AV.fn (Fn.func 16) ([]) (AV.vptr [] (AV.view [] CodeT (((0 : Int), (0 : Int), (0 :
    Int), (0 : Int)) :: @List.nil (den CodeT)) :: []) :: AV.vptr [] (AV.int IntKind.i64 1 :: []) :: [])) (needr (AV.fn (Fn.func 18) ([]) (AV.vptr [] (AV.bool false ::
    []) :: [])) (needr (AV.fn (Fn.func 18) ([]) (AV.vptr [] (AV.bool true :: []) :: [])) (needr (AV.fn (Fn.func 20) ([]) (AV.vptr [] (AV.bool false :: []) :: [])) (needr
    (AV.fn (Fn.func 20) ([]) (AV.vptr [] (AV.bool true :: []) :: [])) (((0 : Int) = 0 ∧ smallC l) ∧ ((∀ (y : X_run7), y.1 = runE allK l → K (AOut.ret (AV.view [] CodeT
    y.1)) (Blk.var (AV.fn (Fn.func 16) ([]) (AV.vptr [] (AV.view [] CodeT (@List.nil (den CodeT)) :: []) :: AV.vptr [] (AV.int IntKind.i64 3 :: []) :: []) :: AV.fn (Fn.func
    16) ([]) (AV.vptr [] (AV.view [] CodeT (((1 : Int), (0 : Int), (0 : Int), (0 : Int)) :: @List.nil (den CodeT)) :: []) :: AV.vptr [] (AV.int IntKind.i64 0 :: [])
    :: []) :: AV.fn (Fn.func 16) ([]) (AV.vptr [] (AV.view [] CodeT (((0 : Int), (0 : Int), (0 : Int), (0 : Int)) :: @List.nil (den CodeT)) :: []) :: AV.vptr [] (AV.int
    IntKind.i64 1 :: []) :: []) :: AV.fn (Fn.func 18) ([]) (AV.vptr [] (AV.bool false :: []) :: []) :: AV.fn (Fn.func 18) ([]) (AV.vptr [] (AV.bool true :: []) :: [])
    :: AV.fn (Fn.func 20) ([]) (AV.vptr [] (AV.bool false :: []) :: []) :: AV.fn (Fn.func 20) ([]) (AV.vptr [] (AV.bool true :: []) :: []) :: []) :: []) [] []) ∧ True)
    ∧ ∀ (y : X_run7), False → K (AOut.ret AV.bad) (Blk.var (AV.fn (Fn.func 16) ([]) (AV.vptr [] (AV.view [] CodeT (@List.nil (den CodeT)) :: []) :: AV.vptr [] (AV.int
    IntKind.i64 3 :: []) :: []) :: AV.fn (Fn.func 16) ([]) (AV.vptr [] (AV.view [] CodeT (((1 : Int), (0 : Int), (0 : Int), (0 : Int)) :: @List.nil (den CodeT)) :: [])
    :: AV.vptr [] (AV.int IntKind.i64 0 :: []) :: []) :: AV.fn (Fn.func 16) ([]) (AV.vptr [] (AV.view [] CodeT (((0 : Int), (0 : Int), (0 : Int), (0 : Int)) :: @List.nil
    (den CodeT)) :: []) :: AV.vptr [] (AV.int IntKind.i64 1 :: []) :: []) :: AV.fn (Fn.func 18) ([]) (AV.vptr [] (AV.bool false :: []) :: []) :: AV.fn (Fn.func 18) ([])
    (AV.vptr [] (AV.bool true :: []) :: []) :: AV.fn (Fn.func 20) ([]) (AV.vptr [] (AV.bool false :: []) :: []) :: AV.fn (Fn.func 20) ([]) (AV.vptr [] (AV.bool true
    :: []) :: []) :: []) :: []) [] [])))))))))))) := by kernel_rfl
theorem run7_ok : SpecOK Try.prog 7 run7S := specOKF_of (mkCall fsOK_concat specsOK_once7 fns_run7OK) (.sl CodeT) [] [] (fun vs w => Try.call7 vs w) fun args m K h hw hwm => by
  unfold run7S at h
  split at h
  · rename_i l rs
    obtain ⟨hlet, h⟩ := h
    subst hlet
    rw [run7_eq]
    refine ⟨?_⟩
    simp only [wfAL, wfA, wfS, wfM, wfB, and_true, true_and, wfT_int, wfT_str, wfT_bool, wfT_prod] at hw hwm
    obtain ⟨h1, h⟩ := h
    have hf : fitA (lenI l) := by unfold smallC at h1; unfold fitA; omega
    simp only [ifB_def, eqI_def, eqL_def, eqD_def, need_def, true_and, and_true, hf, h1]
    exact ⟨fun y hy => by rw [hy]; exact h, fun y hy => hy.elim⟩
  · exact h.elim
noncomputable def SP_run7 : List AV → List Blk → AK → Prop := (specV [.sl CodeT] (frameS run7S))
theorem SPok_run7 : SpecOK Try.prog 7 SP_run7 := (specV_ok (frame_ok run7_ok))
noncomputable def specs_run7 : Specs := (7, SP_run7) :: specs_once7
theorem specsOK_run7 : SpecsOK Try.prog specs_run7 := specsOK_cons SPok_run7 specsOK_once7
end Go.Proofs.Ytkdemkkepepbdaa.Sx

