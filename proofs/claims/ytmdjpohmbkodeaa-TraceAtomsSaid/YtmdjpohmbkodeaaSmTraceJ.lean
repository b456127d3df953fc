/- Light formulas; a first call. -/
import Derived.Test.YtmdjpohmbkodeaaSmTraceI
namespace Go.Proofs.Ytmdjpohmbkodeaa.Sx
open Go.RowKit
set_option maxRecDepth 100000
set_option maxHeartbeats 4000000
set_option linter.unusedVariables false
set_option linter.unusedSimpArgs false
def lightT (ts : List (den TermT)) : Bool := ts.all fun t => decide (lenI t.1 ≤ 60)
def lightN (x : den NodeT) : Bool := decide (lenI x.2.2.2.2.1 ≤ 20) && lightT x.2.2.2.2.1
def lightTF (ts : List (den TermT)) : Bool := lightT ts
def lightF (n : List (den NodeT)) : Bool := decide (lenI n ≤ 310) && n.all lightN
abbrev X_lightI := List (den NodeT) × Int × Int × Bool
def sh_lightI : X_lightI → St := fun x => match x with | (n, i, k, r) => ⟨setL (rep .bad 42) [(0, .view [] NodeT n), (3, .int .i64 i), (4, .int .i64 k)], [], [], []⟩
def shr_lightI : X_lightI → St := fun x => match x with | (n, i, k, r) => ⟨setL (rep .bad 42) [(0, .view [] NodeT n), (3, .int .i64 i), (4, .int .i64 k), (2, .bool r)], [], [], []⟩
def sx_lightI : AExit → X_lightI → St := fun e => match e with | .ret => shr_lightI | _ => sh_lightI
def nx_lightI (σ : St) : X_lightI := (gV NodeT σ 0, gI σ 3, gI σ 4, gB σ 2)
def Pre_lightI : X_lightI → Prop := fun x => match x with | (n, i, k, r) => k = 0 ∧ 0 ≤ i ∧ i < lenI n
def E2_lightI : X_lightI → X_lightI → Prop := fun x y => match x, y with | (n0, i0, k0, r0), (n, i, k, r) => (n = n0 ∧ i = i0) ∧ (lightTF (nth NodeT n i).2.2.2.2.1 = true)
def R_lightI : X_lightI → X_lightI → Prop := fun x y => match x, y with | (n0, i0, k0, r0), (n, i, k, r) => (n = n0 ∧ i = i0) ∧ (r = false ∧ lightTF (nth NodeT n i).2.2.2.2.1 = false)
def D_lightI : X_lightI → LEnds X_lightI := fun x => ⟨[(2, E2_lightI x)], R_lightI x⟩
noncomputable def S_lightI : Summ := summN sh_lightI sx_lightI nx_lightI Pre_lightI D_lightI
def Inv_lightI : X_lightI → X_lightI → Prop := fun x y => match x, y with | (n0, i0, k0, r0), (n, i, k, r) => (n = n0 ∧ i = i0) ∧ (0 ≤ k ∧ k ≤ lenI (nth NodeT n i).2.2.2.2.1 ∧ lightT ((nth NodeT n i).2.2.2.2.1.drop k.toNat) = lightTF (nth NodeT n i).2.2.2.2.1)
def M_lightI : X_lightI → X_lightI → Nat := fun x y => match x, y with | (n0, i0, k0, r0), (n, i, k, r) => (lenI (nth NodeT n i).2.2.2.2.1 - k).toNat
theorem body_lightI (Inv : X_lightI → Prop) (meas : X_lightI → Nat) (nn : Nat) (EE2 RR : X_lightI → Prop) (n : List (den NodeT)) (i : Int) (k : Int) (r : Bool) : awp tab fs_holds (acall tab fs_holds specs_part fns 100 20) [] 100 (loopAt Try.f11 9) (bodyN sh_lightI sx_lightI nx_lightI Inv meas nn ⟨[(2, EE2)], RR⟩) (sh_lightI (n, i, k, r)) =
  (need (inI i (lenI n)) (ifB (ltB k (lenI (nth NodeT n i).snd.snd.snd.snd.fst)) (need (inI i (lenI n)) (need (inI k (lenI (nth NodeT n i).snd.snd.snd.snd.fst)) (ifB
    (ltB 60 (lenI (nth TermT (nth NodeT n i).snd.snd.snd.snd.fst k).fst)) (eqD n n (eqL false false (eqI i i (eqI k k (RR (n, i, k, false)))))) (eqD n n (eqI i i (eqI
    (addW IntKind.i64 k 1) (addW IntKind.i64 k 1) (Inv (n, i, addW IntKind.i64 k 1, false) ∧ meas (n, i, addW IntKind.i64 k 1, false) < nn))))))) (eqD n n (eqI i i (eqI
    k k (EE2 (n, i, k, false))))))) := by kernel_rfl
theorem body_lightI_ok : ∀ x y, Pre_lightI x → Inv_lightI x y → wfS (sh_lightI y) → Hd (awp tab fs_holds (acall tab fs_holds specs_part fns 100 20) [] 100 (loopAt Try.f11 9) (bodyN sh_lightI sx_lightI nx_lightI (Inv_lightI x) (M_lightI x) (M_lightI x y) (D_lightI x)) (sh_lightI y)) := by
  rintro ⟨n0, i0, k0, r0⟩ ⟨n, i, k, r⟩ hp hI hw
  obtain ⟨⟨rfl, rfl⟩, hI⟩ := hI
  have hw_n := wfL_view hw 0 rfl
  have hw_i := wfL_int hw 3 rfl
  have hw_k := wfL_int hw 4 rfl
  have hp : k0 = 0 ∧ 0 ≤ i ∧ i < lenI n := hp
  unfold D_lightI
  rw [body_lightI]
  refine ⟨?_⟩
  have hInv : ∀ (k : Int) (r : Bool), (0 ≤ k ∧ k ≤ lenI (nth NodeT n i).2.2.2.2.1 ∧ lightT ((nth NodeT n i).2.2.2.2.1.drop k.toNat) = lightTF (nth NodeT n i).2.2.2.2.1) → Inv_lightI (n, i, k0, r0) (n, i, k, r) := fun _ _ h => ⟨⟨rfl, rfl⟩, h⟩
  generalize hIe : Inv_lightI (n, i, k0, r0) = Inv at hInv ⊢
  have hMe : ∀ (k : Int) (r : Bool), M_lightI (n, i, k0, r0) (n, i, k, r) = (lenI (nth NodeT n i).2.2.2.2.1 - k).toNat := fun _ _ => rfl
  generalize M_lightI (n, i, k0, r0) = Me at hMe ⊢
  have hE2 : ∀ (k : Int) (r : Bool), (lightTF (nth NodeT n i).2.2.2.2.1 = true) → E2_lightI (n, i, k0, r0) (n, i, k, r) := fun _ _ h => ⟨⟨rfl, rfl⟩, h⟩
  generalize E2_lightI (n, i, k0, r0) = EE2 at hE2 ⊢
  have hR : ∀ (k : Int) (r : Bool), (r = false ∧ lightTF (nth NodeT n i).2.2.2.2.1 = false) → R_lightI (n, i, k0, r0) (n, i, k, r) := fun _ _ h => ⟨⟨rfl, rfl⟩, h⟩
  generalize R_lightI (n, i, k0, r0) = RR at hR ⊢
  obtain ⟨h0, h1, hI⟩ := hI
  obtain ⟨p1, p2, p3⟩ := hp
  obtain ⟨ts, hts⟩ : ∃ ts : List (den TermT), (nth NodeT n i).2.2.2.2.1 = ts := ⟨_, rfl⟩
  have hwts : wfT (.list TermT) ts := by rw [← hts]; exact (wfT_nth hw_n p2 p3).2.2.2.2.1
  have hlen := wfT_len hwts
  simp only [hts] at h1 hI hInv hMe hE2 hR ⊢
  have hin : inI i (lenI n) := ⟨p2, p3⟩
  by_cases hlt : k < lenI ts
  · have ek : addW .i64 k 1 = k + 1 := addW64 (by omega) (by omega)
    have hin2 : inI k (lenI ts) := ⟨h0, hlt⟩
    rw [drop_nth (t := TermT) h0 hlt] at hI
    obtain ⟨x1, x2, hx⟩ : ∃ (c : List UInt8) (d : Int), nth TermT ts k = (c, d) := ⟨_, _, rfl⟩
    simp only [hx] at hI ⊢
    simp only [lightT, List.all_cons] at hI
    by_cases hb : 60 < lenI x1
    · have hd : decide (lenI x1 ≤ 60) = false := decide_eq_false (by omega)
      rw [hd, Bool.false_and] at hI
      simp only [ltB_t.2 hlt, ltB_t.2 hb, hin, hin2, ek, simpsL, implies_true, forall_const, if_true, if_false, reduceCtorEq]
      exact hR _ _ ⟨rfl, hI.symm⟩
    · have hd : decide (lenI x1 ≤ 60) = true := decide_eq_true (by omega)
      rw [hd, Bool.true_and] at hI
      simp only [ltB_t.2 hlt, ltB_f.2 (Int.not_lt.1 hb), hin, hin2, ek, simpsL, implies_true, forall_const, if_true, if_false, reduceCtorEq]
      exact ⟨hInv _ _ ⟨by omega, by omega, hI⟩, by simp only [hMe]; omega⟩
  · rw [drop_all (by omega)] at hI
    simp only [lightT, List.all_nil] at hI
    simp only [ltB_f.2 (Int.not_lt.1 hlt), hin, simpsL, implies_true, forall_const, if_true, if_false, reduceCtorEq]
    exact hE2 _ _ hI.symm
theorem summ_lightI : SummOK Try.prog (loopAt Try.f11 9) S_lightI :=
  summN_ok (L := []) (fuel := 100) tabOK fsOK_holds (mkCall fsOK_holds specsOK_part fnsOK) (fun C => mkDraw fsOK_holds (mkCall fsOK_holds specsOK_part fnsOK) C) loopsOK_nil Inv_lightI M_lightI
    (fun x hp hw => by
      obtain ⟨n, i, k, r⟩ := x
      have hp : k = 0 ∧ 0 ≤ i ∧ i < lenI n := hp
      have hw_n := wfL_view hw 0 rfl
      have hw_i := wfL_int hw 3 rfl
      have hw_k := wfL_int hw 4 rfl
      obtain ⟨rfl, h1, h2⟩ := hp
      exact ⟨⟨rfl, rfl⟩, Int.le_refl _, lenI_nn _, rfl⟩)
    (body_lightI_ok)
abbrev X_lightO := List (den NodeT) × Int × Bool
def sh_lightO : X_lightO → St := fun x => match x with | (n, i, r) => ⟨setL (rep .bad 42) [(0, .view [] NodeT n), (3, .int .i64 i)], [], [], []⟩
def shr_lightO : X_lightO → St := fun x => match x with | (n, i, r) => ⟨setL (rep .bad 42) [(0, .view [] NodeT n), (3, .int .i64 i), (2, .bool r)], [], [], []⟩
def sx_lightO : AExit → X_lightO → St := fun e => match e with | .ret => shr_lightO | _ => sh_lightO
def nx_lightO (σ : St) : X_lightO := (gV NodeT σ 0, gI σ 3, gB σ 2)
def Pre_lightO : X_lightO → Prop := fun x => match x with | (n, i, r) => i = 0 ∧ lenI n ≤ 310
def E0_lightO : X_lightO → X_lightO → Prop := fun x y => match x, y with | (n0, i0, r0), (n, i, r) => (n = n0) ∧ (lightF n = true)
def R_lightO : X_lightO → X_lightO → Prop := fun x y => match x, y with | (n0, i0, r0), (n, i, r) => (n = n0) ∧ (r = lightF n)
def D_lightO : X_lightO → LEnds X_lightO := fun x => ⟨[(0, E0_lightO x)], R_lightO x⟩
noncomputable def S_lightO : Summ := summN sh_lightO sx_lightO nx_lightO Pre_lightO D_lightO
def Inv_lightO : X_lightO → X_lightO → Prop := fun x y => match x, y with | (n0, i0, r0), (n, i, r) => (n = n0) ∧ ((0 ≤ i ∧ i ≤ lenI n) ∧ (n.drop i.toNat).all lightN = n.all lightN)
def M_lightO : X_lightO → X_lightO → Nat := fun x y => match x, y with | (n0, i0, r0), (n, i, r) => (lenI n - i).toNat
theorem body_lightO (Inv : X_lightO → Prop) (meas : X_lightO → Nat) (nn : Nat) (EE0 RR : X_lightO → Prop) (n : List (den NodeT)) (i : Int) (r : Bool) : awp tab fs_holds (acall tab fs_holds specs_part fns 100 20) [(9, S_lightI)] 100 (loopAt Try.f11 4) (bodyN sh_lightO sx_lightO nx_lightO Inv meas nn ⟨[(0, EE0)], RR⟩) (sh_lightO (n, i, r)) =
  (ifB (ltB i (lenI n)) (need (inI i (lenI n)) (ifB (ltB 20 (lenI (nth NodeT n i).snd.snd.snd.snd.fst)) (eqD n n (eqL false false (eqI i i (RR (n, i, false))))) (eqD
    n n (eqI i i (eqI 0 0 (((0 : Int) = 0 ∧ 0 ≤ i ∧ i < lenI n) ∧ ((∀ (y : X_lightI), (y.1 = n ∧ y.2.1 = i) ∧ lightTF (nth NodeT y.1 y.2.1).snd.snd.snd.snd.fst = true
    → eqD y.1 y.1 (eqI (addW IntKind.i64 y.2.1 1) (addW IntKind.i64 y.2.1 1) (Inv (y.1, addW IntKind.i64 y.2.1 1, false) ∧ meas (y.1, addW IntKind.i64 y.2.1 1, false)
    < nn))) ∧ True) ∧ ∀ (y : X_lightI), (y.1 = n ∧ y.2.1 = i) ∧ y.2.2.2 = false ∧ lightTF (nth NodeT y.1 y.2.1).snd.snd.snd.snd.fst = false → eqD y.1 y.1 (eqL y.2.2.2
    y.2.2.2 (eqI y.2.1 y.2.1 (RR (y.1, y.2.1, y.2.2.2)))))))))) (eqD n n (eqI i i (EE0 (n, i, false))))) := by kernel_rfl
theorem body_lightO_ok : ∀ x y, Pre_lightO x → Inv_lightO x y → wfS (sh_lightO y) → Hd (awp tab fs_holds (acall tab fs_holds specs_part fns 100 20) [(9, S_lightI)] 100 (loopAt Try.f11 4) (bodyN sh_lightO sx_lightO nx_lightO (Inv_lightO x) (M_lightO x) (M_lightO x y) (D_lightO x)) (sh_lightO y)) := by
  rintro ⟨n0, i0, r0⟩ ⟨n, i, r⟩ hp hI hw
  obtain ⟨rfl, hI⟩ := hI
  have hw_n := wfL_view hw 0 rfl
  have hw_i := wfL_int hw 3 rfl
  have hp : i0 = 0 ∧ lenI n ≤ 310 := hp
  unfold D_lightO
  rw [body_lightO]
  refine ⟨?_⟩
  have hInv : ∀ (i : Int) (r : Bool), ((0 ≤ i ∧ i ≤ lenI n) ∧ (n.drop i.toNat).all lightN = n.all lightN) → Inv_lightO (n, i0, r0) (n, i, r) := fun _ _ h => ⟨rfl, h⟩
  generalize hIe : Inv_lightO (n, i0, r0) = Inv at hInv ⊢
  have hMe : ∀ (i : Int) (r : Bool), M_lightO (n, i0, r0) (n, i, r) = (lenI n - i).toNat := fun _ _ => rfl
  generalize M_lightO (n, i0, r0) = Me at hMe ⊢
  have hE0 : ∀ (i : Int) (r : Bool), (lightF n = true) → E0_lightO (n, i0, r0) (n, i, r) := fun _ _ h => ⟨rfl, h⟩
  generalize E0_lightO (n, i0, r0) = EE0 at hE0 ⊢
  have hR : ∀ (i : Int) (r : Bool), (r = lightF n) → R_lightO (n, i0, r0) (n, i, r) := fun _ _ h => ⟨rfl, h⟩
  generalize R_lightO (n, i0, r0) = RR at hR ⊢
  obtain ⟨hi, hI⟩ := hI
  obtain ⟨p1, p2⟩ := hp
  have hlen := wfT_len hw_n
  have hF : lightF n = n.all lightN := by unfold lightF; rw [decide_eq_true p2, Bool.true_and]
  by_cases hlt : i < lenI n
  · have ei : addW .i64 i 1 = i + 1 := addW64 (by omega) (by omega)
    have hin : inI i (lenI n) := ⟨hi.1, hlt⟩
    rw [drop_nth (t := NodeT) hi.1 hlt] at hI
    simp only [List.all_cons] at hI
    have hN : lightN (nth NodeT n i) = (decide (lenI (nth NodeT n i).2.2.2.2.1 ≤ 20) && lightTF (nth NodeT n i).2.2.2.2.1) := rfl
    rw [hN] at hI
    obtain ⟨ts, hts⟩ : ∃ ts : List (den TermT), (nth NodeT n i).2.2.2.2.1 = ts := ⟨_, rfl⟩
    rw [hts] at hI
    simp only [hts]
    by_cases hb : 20 < lenI ts
    · have hd : decide (lenI ts ≤ 20) = false := decide_eq_false (by omega)
      rw [hd, Bool.false_and, Bool.false_and] at hI
      simp only [ltB_t.2 hlt, ltB_t.2 hb, hin, ei, simpsL, implies_true, forall_const, if_true, if_false, reduceCtorEq]
      exact hR _ _ (by rw [hF]; exact hI)
    · have hd : decide (lenI ts ≤ 20) = true := decide_eq_true (by omega)
      rw [hd, Bool.true_and] at hI
      simp only [ltB_t.2 hlt, ltB_f.2 (Int.not_lt.1 hb), hin, ei, simpsL, implies_true, forall_const, if_true, if_false, reduceCtorEq]
      refine ⟨⟨hi.1, hlt⟩, ?_, ?_⟩
      · rintro ⟨y1, y2, y3, y4⟩ ⟨⟨e1, e2⟩, e3⟩
        dsimp only at e1 e2 e3 ⊢
        rw [e1, e2] at e3 ⊢
        rw [hts] at e3
        rw [e3, Bool.true_and] at hI
        rw [ei]
        exact ⟨hInv _ _ ⟨⟨by omega, by omega⟩, hI⟩, by simp only [hMe]; omega⟩
      · rintro ⟨y1, y2, y3, y4⟩ ⟨⟨e1, e2⟩, e3, e4⟩
        dsimp only at e1 e2 e3 e4 ⊢
        rw [e1, e2] at e4 ⊢
        rw [hts] at e4
        rw [e4, Bool.false_and] at hI
        exact hR _ _ (by rw [hF, e3]; exact hI)
  · rw [drop_all (by omega)] at hI
    simp only [List.all_nil] at hI
    simp only [ltB_f.2 (Int.not_lt.1 hlt), simpsL, implies_true, forall_const, if_true, if_false, reduceCtorEq]
    exact hE0 _ _ (by rw [hF]; exact hI.symm)
theorem lok_lightO : LoopsOK Try.prog [(9, S_lightI)] (loopAt Try.f11 4) := loopsOK_at (by kernel_rfl) fun k S h => by
  simp only [List.mem_cons, Prod.mk.injEq, List.not_mem_nil, or_false] at h
  obtain ⟨rfl, rfl⟩ := h
  exact (by kernel_rfl : findLoop (loopsOf (loopAt Try.f11 4)) 9 = loopAt Try.f11 9) ▸ summ_lightI
theorem summ_lightO : SummOK Try.prog (loopAt Try.f11 4) S_lightO :=
  summN_ok (L := [(9, S_lightI)]) (fuel := 100) tabOK fsOK_holds (mkCall fsOK_holds specsOK_part fnsOK) (fun C => mkDraw fsOK_holds (mkCall fsOK_holds specsOK_part fnsOK) C) lok_lightO Inv_lightO M_lightO
    (fun x hp hw => by
      obtain ⟨n, i, r⟩ := x
      have hp : i = 0 ∧ lenI n ≤ 310 := hp
      have hw_n := wfL_view hw 0 rfl
      have hw_i := wfL_int hw 3 rfl
      obtain ⟨rfl, h⟩ := hp
      exact ⟨rfl, ⟨by omega, lenI_nn _⟩, rfl⟩)
    (body_lightO_ok)
noncomputable def fns_light_11 : Fns := (11, Try.f11, [(9, S_lightI)]) :: fns
theorem fn_light_11 : FnOK Try.prog 11 Try.f11 [(9, S_lightI)] := fnOK_loops Try.func11 (fun vs w => Try.call11 vs w) (by kernel_rfl) fun k S h => by
  simp only [List.mem_cons, Prod.mk.injEq, List.not_mem_nil, or_false] at h
  obtain ⟨rfl, rfl⟩ := h
  exact summ_lightI
theorem fns_light_11OK : FnsOK Try.prog fns_light_11 := fnsOK_cons fn_light_11 fnsOK
noncomputable def fns_light : Fns := (11, Try.f11, [(4, S_lightO)]) :: fns_light_11
theorem fn_light : FnOK Try.prog 11 Try.f11 [(4, S_lightO)] := fnOK_loops Try.func11 (fun vs w => Try.call11 vs w) (by kernel_rfl) fun k S h => by
  simp only [List.mem_cons, Prod.mk.injEq, List.not_mem_nil, or_false] at h
  obtain ⟨rfl, rfl⟩ := h
  exact summ_lightO
theorem fns_lightOK : FnsOK Try.prog fns_light := fnsOK_cons fn_light fns_light_11OK
noncomputable def lightS : List AV → OV := fun args => match args with | [.view [] (.prod (.int .i64) (.prod (.int .i64) (.prod (.int .i64) (.prod (.int .i64) (.prod (.list (.prod .str (.int .i64))) (.int .i64)))))) n] => some ([], .bool (lightF n)) | _ => none
theorem light_eq (n : List (den NodeT)) : acall tab fs_holds specs_part fns_light 100 20 11 [.view [] NodeT n] [] (fun o mm _ _ => resN (.any) mm o = .ret (.bool (lightF n))) =
  (ifB (ltB 310 (lenI n)) (AOut.ret (AV.bool false) = AOut.ret (AV.bool (lightF n))) (eqD n n (eqI 0 0 (((0 : Int) = 0 ∧ lenI n ≤ 310) ∧ ((∀ (y : X_lightO), y.1 = n
    ∧ lightF y.1 = true → AOut.ret (AV.bool true) = AOut.ret (AV.bool (lightF n))) ∧ True) ∧ ∀ (y : X_lightO), y.1 = n ∧ y.2.2 = lightF y.1 → AOut.ret (AV.bool y.2.2)
    = AOut.ret (AV.bool (lightF n)))))) := by kernel_rfl
theorem light_ok : SpecOK Try.prog 11 (fspecS (pureN [.sl NodeT] lightS)) := pureN_ok (mkCall fsOK_holds specsOK_part fns_lightOK) (.any) (fun vs w => Try.call11 vs w) fun args ps v h hp hw => by
  unfold lightS at h
  split at h
  · cases h
    rename_i n
    rw [light_eq]
    refine ⟨?_⟩
    simp only [allP_cons, allP_nil, and_true] at hp
    simp only [wfAL, wfA, wfS, wfM, wfB, and_true, true_and, wfT_int, wfT_str, wfT_bool, wfT_prod] at hw
    simp only [simpsL, implies_true, forall_const, if_true, if_false, reduceCtorEq]
    refine ⟨fun h => ?_, fun h => ⟨h, ?_, ?_⟩⟩
    · unfold lightF; rw [decide_eq_false (by omega), Bool.false_and]
    · rintro y ⟨e1, e2⟩; rw [e1] at e2; exact e2.symm
    · rintro y ⟨e1, e2⟩; rw [e1] at e2; exact e2
  · cases h
noncomputable def FF_light : FSpec := pureN [.sl NodeT] lightS
theorem FFok_light : SpecOK Try.prog 11 (fspecS FF_light) := light_ok
noncomputable def fs_light : FS := (11, FF_light) :: fs_holds
theorem fsOK_light : FSOK Try.prog fs_light := fsOK_cons FFok_light fsOK_holds
def fA : List (den NodeT) := ((8 : Int), (1 : Int), (1 : Int), (2 : Int), @List.nil (den TermT), (0 : Int)) :: ((2 : Int), (0 : Int), (0 : Int), (0 : Int), (((97 : UInt8) :: @List.nil UInt8), (4294967296 : Int)) :: @List.nil (den TermT), (4294967296 : Int)) :: @List.nil (den NodeT)
def fB : List (den NodeT) := ((7 : Int), (1 : Int), (0 : Int), (0 : Int), @List.nil (den TermT), (0 : Int)) :: ((0 : Int), (0 : Int), (0 : Int), (0 : Int), @List.nil (den TermT), (0 : Int)) :: @List.nil (den NodeT)
noncomputable def aliveS : List AV → OV := fun args => match args with | [] => some ([], .bool true) | _ => none
theorem alive_eq  : acall tab fs_light specs_part fns 100 20 13 [] [] (fun o mm _ _ => resN (.any) mm o = .ret (.bool true)) =
  (need (midN (fA)) (need (oneR 4) (need (leI 0 0) (need (leI 0 3) (need (leI 3 4) (need (midN (fB)) (need (oneR 3) (need (impB (selB (selB (selB (eqB (holdsE (fA)
    ((0 :: @List.nil (den (Ty.int IntKind.i64))) :: (4294967296 :: @List.nil (den (Ty.int IntKind.i64))) :: (8589934592 :: @List.nil (den (Ty.int IntKind.i64))) :: (12884901888
    :: @List.nil (den (Ty.int IntKind.i64))) :: @List.nil (den (Ty.int IntKind.i64).list)) 3) 0) (eqB (holdsV (fA) ((97 :: @List.nil UInt8) :: @List.nil (den Ty.str))
    ((0 :: @List.nil (den (Ty.int IntKind.i64))) :: (4294967296 :: @List.nil (den (Ty.int IntKind.i64))) :: (8589934592 :: @List.nil (den (Ty.int IntKind.i64))) :: (12884901888
    :: @List.nil (den (Ty.int IntKind.i64))) :: @List.nil (den (Ty.int IntKind.i64).list)) 3) 1) false) (eqB (rightE (fB)) 0) false) (eqB (lenI (allL (fB) (@List.nil
    (den Ty.str)) ((0 :: @List.nil (den (Ty.int IntKind.i64))) :: (4294967296 :: @List.nil (den (Ty.int IntKind.i64))) :: (8589934592 :: @List.nil (den (Ty.int IntKind.i64)))
    :: @List.nil (den (Ty.int IntKind.i64).list)))) 3) false) (inI 0 (lenI (allL (fB) (@List.nil (den Ty.str)) ((0 :: @List.nil (den (Ty.int IntKind.i64))) :: (4294967296
    :: @List.nil (den (Ty.int IntKind.i64))) :: (8589934592 :: @List.nil (den (Ty.int IntKind.i64))) :: @List.nil (den (Ty.int IntKind.i64).list)))))) (need (impB (selB
    (selB (selB (selB (eqB (holdsE (fA) ((0 :: @List.nil (den (Ty.int IntKind.i64))) :: (4294967296 :: @List.nil (den (Ty.int IntKind.i64))) :: (8589934592 :: @List.nil
    (den (Ty.int IntKind.i64))) :: (12884901888 :: @List.nil (den (Ty.int IntKind.i64))) :: @List.nil (den (Ty.int IntKind.i64).list)) 3) 0) (eqB (holdsV (fA) ((97 ::
    @List.nil UInt8) :: @List.nil (den Ty.str)) ((0 :: @List.nil (den (Ty.int IntKind.i64))) :: (4294967296 :: @List.nil (den (Ty.int IntKind.i64))) :: (8589934592 ::
    @List.nil (den (Ty.int IntKind.i64))) :: (12884901888 :: @List.nil (den (Ty.int IntKind.i64))) :: @List.nil (den (Ty.int IntKind.i64).list)) 3) 1) false) (eqB (rightE
    (fB)) 0) false) (eqB (lenI (allL (fB) (@List.nil (den Ty.str)) ((0 :: @List.nil (den (Ty.int IntKind.i64))) :: (4294967296 :: @List.nil (den (Ty.int IntKind.i64)))
    :: (8589934592 :: @List.nil (den (Ty.int IntKind.i64))) :: @List.nil (den (Ty.int IntKind.i64).list)))) 3) false) (eqB (nth (Ty.int IntKind.i64) (allL (fB) (@List.nil
    (den Ty.str)) ((0 :: @List.nil (den (Ty.int IntKind.i64))) :: (4294967296 :: @List.nil (den (Ty.int IntKind.i64))) :: (8589934592 :: @List.nil (den (Ty.int IntKind.i64)))
    :: @List.nil (den (Ty.int IntKind.i64).list))) 0) 0) false) (inI 1 (lenI (allL (fB) (@List.nil (den Ty.str)) ((0 :: @List.nil (den (Ty.int IntKind.i64))) :: (4294967296
    :: @List.nil (den (Ty.int IntKind.i64))) :: (8589934592 :: @List.nil (den (Ty.int IntKind.i64))) :: @List.nil (den (Ty.int IntKind.i64).list)))))) (AOut.ret (AV.bool
    (selB (selB (selB (selB (selB (eqB (holdsE (fA) ((0 :: @List.nil (den (Ty.int IntKind.i64))) :: (4294967296 :: @List.nil (den (Ty.int IntKind.i64))) :: (8589934592
    :: @List.nil (den (Ty.int IntKind.i64))) :: (12884901888 :: @List.nil (den (Ty.int IntKind.i64))) :: @List.nil (den (Ty.int IntKind.i64).list)) 3) 0) (eqB (holdsV
    (fA) ((97 :: @List.nil UInt8) :: @List.nil (den Ty.str)) ((0 :: @List.nil (den (Ty.int IntKind.i64))) :: (4294967296 :: @List.nil (den (Ty.int IntKind.i64))) ::
    (8589934592 :: @List.nil (den (Ty.int IntKind.i64))) :: (12884901888 :: @List.nil (den (Ty.int IntKind.i64))) :: @List.nil (den (Ty.int IntKind.i64).list)) 3) 1)
    false) (eqB (rightE (fB)) 0) false) (eqB (lenI (allL (fB) (@List.nil (den Ty.str)) ((0 :: @List.nil (den (Ty.int IntKind.i64))) :: (4294967296 :: @List.nil (den
    (Ty.int IntKind.i64))) :: (8589934592 :: @List.nil (den (Ty.int IntKind.i64))) :: @List.nil (den (Ty.int IntKind.i64).list)))) 3) false) (eqB (nth (Ty.int IntKind.i64)
    (allL (fB) (@List.nil (den Ty.str)) ((0 :: @List.nil (den (Ty.int IntKind.i64))) :: (4294967296 :: @List.nil (den (Ty.int IntKind.i64))) :: (8589934592 :: @List.nil
    (den (Ty.int IntKind.i64))) :: @List.nil (den (Ty.int IntKind.i64).list))) 0) 0) false) (eqB (nth (Ty.int IntKind.i64) (allL (fB) (@List.nil (den Ty.str)) ((0 ::
    @List.nil (den (Ty.int IntKind.i64))) :: (4294967296 :: @List.nil (den (Ty.int IntKind.i64))) :: (8589934592 :: @List.nil (den (Ty.int IntKind.i64))) :: @List.nil
    (den (Ty.int IntKind.i64).list))) 1) 1) false)) = AOut.ret (AV.bool true))))))))))) := by kernel_rfl
theorem alive_ok : SpecOK Try.prog 13 (fspecS (pureN [] aliveS)) := pureN_ok (mkCall fsOK_light specsOK_part fnsOK) (.any) (fun vs w => Try.call13 vs w) fun args ps v h hp hw => by
  unfold aliveS at h
  split at h
  · cases h
    rw [alive_eq]
    refine ⟨?_⟩
    simp only [allP_cons, allP_nil, and_true] at hp
    simp only [wfAL, wfA, wfS, wfM, wfB, and_true, true_and, wfT_int, wfT_str, wfT_bool, wfT_prod] at hw
    have m1 : midN fA := by unfold midN fA lenI; decide
    have m2 : midN fB := by unfold midN fB lenI; decide
    have o1 : oneR 4 := by unfold oneR; omega
    have o2 : oneR 3 := by unfold oneR; omega
    have e1 : holdsE fA [[0], [4294967296], [8589934592], [12884901888]] 3 = 0 := by decide +kernel
    have e2 : holdsV fA [[97]] [[0], [4294967296], [8589934592], [12884901888]] 3 = 1 := by decide +kernel
    have e3 : rightE fB = 0 := by decide +kernel
    have e4 : allL fB [] [[0], [4294967296], [8589934592]] = [0, 1, 1] := by decide +kernel
    have e5 : lenI ((0 : Int) :: 1 :: 1 :: @List.nil (den (.int .i64))) = 3 := rfl
    have e6 : nth (.int .i64) ((0 : Int) :: 1 :: 1 :: @List.nil (den (.int .i64))) 0 = 0 := rfl
    have e7 : nth (.int .i64) ((0 : Int) :: 1 :: 1 :: @List.nil (den (.int .i64))) 1 = 1 := rfl
    simp only [e1, e2, e3, e4]
    simp only [leI, simpsL, implies_true, forall_const, if_true, if_false, reduceCtorEq, m1, m2, o1, o2, e5, e6, e7]
    repeat' (first | with_reducible rfl | omega | trivial | refine ⟨?_, ?_⟩ | intro _)
  · cases h
noncomputable def FF_alive : FSpec := pureN [] aliveS
theorem FFok_alive : SpecOK Try.prog 13 (fspecS FF_alive) := alive_ok
noncomputable def fs_alive : FS := (13, FF_alive) :: fs_light
theorem fsOK_alive : FSOK Try.prog fs_alive := fsOK_cons FFok_alive fsOK_light
end Go.Proofs.Ytmdjpohmbkodeaa.Sx

