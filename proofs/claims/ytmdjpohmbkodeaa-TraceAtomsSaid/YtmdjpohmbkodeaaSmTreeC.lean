/- Formulas as lists of parts: what is made of them. -/
import Derived.Test.YtmdjpohmbkodeaaSmTreeB
namespace Go.Proofs.Ytmdjpohmbkodeaa.Sx
open Go.RowKit
set_option maxRecDepth 100000
set_option maxHeartbeats 4000000
set_option linter.unusedVariables false
set_option linter.unusedSimpArgs false
def termsFit (n : List (den NodeT)) : Prop := ∀ x ∈ n, fits x.2.2.2.2.1
abbrev X_copiedL := List (den NodeT) × Int × Int
def sh_copiedL : X_copiedL → St := fun x => match x with | (xs, len, i) => ⟨setL (rep .bad 24) [(8, .int .i64 len), (9, .int .i64 i), (3, .own 0)], [.row 24 NodeT xs []], [0, 1], [0, 1]⟩
def sx_copiedL : AExit → X_copiedL → St := fun _ => sh_copiedL
def nx_copiedL (σ : St) : X_copiedL := (rV NodeT σ 0, gI σ 8, gI σ 9)
def Pre_copiedL : X_copiedL → Prop := fun x => match x with | (xs, len, i) => i = 0 ∧ len = lenI xs ∧ termsFit xs
def E0_copiedL : X_copiedL → X_copiedL → Prop := fun x y => match x, y with | (xs0, len0, i0), (xs, len, i) => (xs = xs0 ∧ len = len0) ∧ (True)
def R_copiedL : X_copiedL → X_copiedL → Prop := fun x y => match x, y with | (xs0, len0, i0), (xs, len, i) => (xs = xs0 ∧ len = len0) ∧ (False)
def D_copiedL : X_copiedL → LEnds X_copiedL := fun x => ⟨[(0, E0_copiedL x)], R_copiedL x⟩
noncomputable def S_copiedL : Summ := summN sh_copiedL sx_copiedL nx_copiedL Pre_copiedL D_copiedL
def Inv_copiedL : X_copiedL → X_copiedL → Prop := fun x y => match x, y with | (xs0, len0, i0), (xs, len, i) => (xs = xs0 ∧ len = len0) ∧ ((0 ≤ i ∧ i ≤ len))
def M_copiedL : X_copiedL → X_copiedL → Nat := fun x y => match x, y with | (xs0, len0, i0), (xs, len, i) => (len - i).toNat
theorem body_copiedL (Inv : X_copiedL → Prop) (meas : X_copiedL → Nat) (nn : Nat) (EE0 RR : X_copiedL → Prop) (xs : List (den NodeT)) (len : Int) (i : Int) : awp tab fs_same (acall tab fs_same [] fns 100 20) [] 100 (loopAt Try.f38 3) (bodyN sh_copiedL sx_copiedL nx_copiedL Inv meas nn ⟨[(0, EE0)], RR⟩) (sh_copiedL (xs, len, i)) =
  (ifB (ltB i len) (need (inI i (lenI xs)) (need (inI i (lenI xs)) (need (fits (nth NodeT xs i).snd.snd.snd.snd.fst) (need (inI i (lenI xs)) (need (inI i (lenI xs))
    (eqI len len (eqI (addW IntKind.i64 i 1) (addW IntKind.i64 i 1) (eqD (setI xs i ((nth NodeT xs i).fst, (nth NodeT xs i).snd.fst, (nth NodeT xs i).snd.snd.fst, (nth
    NodeT xs i).snd.snd.snd.fst, (nth NodeT xs i).2.2.2.2.1, (nth NodeT xs i).snd.snd.snd.snd.snd)) (setI xs i ((nth NodeT xs i).fst, (nth NodeT xs i).snd.fst, (nth
    NodeT xs i).snd.snd.fst, (nth NodeT xs i).snd.snd.snd.fst, (nth NodeT xs i).2.2.2.2.1, (nth NodeT xs i).snd.snd.snd.snd.snd)) (Inv (setI xs i ((nth NodeT xs i).fst,
    (nth NodeT xs i).snd.fst, (nth NodeT xs i).snd.snd.fst, (nth NodeT xs i).snd.snd.snd.fst, (nth NodeT xs i).2.2.2.2.1, (nth NodeT xs i).snd.snd.snd.snd.snd), len,
    addW IntKind.i64 i 1) ∧ meas (setI xs i ((nth NodeT xs i).fst, (nth NodeT xs i).snd.fst, (nth NodeT xs i).snd.snd.fst, (nth NodeT xs i).snd.snd.snd.fst, (nth NodeT
    xs i).2.2.2.2.1, (nth NodeT xs i).snd.snd.snd.snd.snd), len, addW IntKind.i64 i 1) < nn))))))))) (eqI len len (eqI i i (eqD xs xs (EE0 (xs, len, i)))))) := by kernel_rfl
theorem body_copiedL_ok : ∀ x y, Pre_copiedL x → Inv_copiedL x y → wfS (sh_copiedL y) → Hd (awp tab fs_same (acall tab fs_same [] fns 100 20) [] 100 (loopAt Try.f38 3) (bodyN sh_copiedL sx_copiedL nx_copiedL (Inv_copiedL x) (M_copiedL x) (M_copiedL x y) (D_copiedL x)) (sh_copiedL y)) := by
  rintro ⟨xs0, len0, i0⟩ ⟨xs, len, i⟩ hp hI hw
  obtain ⟨⟨rfl, rfl⟩, hI⟩ := hI
  have hw_xs := wfR_row hw 0 rfl
  have hw_len := wfL_int hw 8 rfl
  have hw_i := wfL_int hw 9 rfl
  have hp : i0 = 0 ∧ len = lenI xs ∧ termsFit xs := hp
  unfold D_copiedL
  rw [body_copiedL]
  refine ⟨?_⟩
  have hInv : ∀ (i : Int), ((0 ≤ i ∧ i ≤ len)) → Inv_copiedL (xs, len, i0) (xs, len, i) := fun _ h => ⟨⟨rfl, rfl⟩, h⟩
  generalize hIe : Inv_copiedL (xs, len, i0) = Inv at hInv ⊢
  have hMe : ∀ (i : Int), M_copiedL (xs, len, i0) (xs, len, i) = (len - i).toNat := fun _ => rfl
  generalize M_copiedL (xs, len, i0) = Me at hMe ⊢
  have hE0 : ∀ (i : Int), (True) → E0_copiedL (xs, len, i0) (xs, len, i) := fun _ h => ⟨⟨rfl, rfl⟩, h⟩
  generalize E0_copiedL (xs, len, i0) = EE0 at hE0 ⊢
  have hR : ∀ (i : Int), (False) → R_copiedL (xs, len, i0) (xs, len, i) := fun _ h => ⟨⟨rfl, rfl⟩, h⟩
  generalize R_copiedL (xs, len, i0) = RR at hR ⊢
  obtain ⟨p1, rfl, p3⟩ := hp
  have hlen := wfT_len hw_xs
  have hI' : 0 ≤ i ∧ i ≤ lenI xs := hI
  by_cases hlt : i < lenI xs
  · have ei : addW .i64 i 1 = i + 1 := addW64 (by omega) (by omega)
    have hin : inI i (lenI xs) := ⟨hI'.1, hlt⟩
    have hfx : fits (nth NodeT xs i).2.2.2.2.1 := p3 _ (nth_mem hI'.1 hlt)
    have hset : setI xs i ((nth NodeT xs i).1, (nth NodeT xs i).2.1, (nth NodeT xs i).2.2.1, (nth NodeT xs i).2.2.2.1, (nth NodeT xs i).2.2.2.2.1, (nth NodeT xs i).2.2.2.2.2) = xs := setI_nth (t := NodeT) hI'.1 hlt
    simp only [ltB_t.2 hlt, hin, hfx, hset, ei, simpsL, implies_true, forall_const, if_true, if_false, reduceCtorEq]
    (repeat' (first | with_reducible rfl | assumption | omega | (apply Eq.symm; assumption) | (simp only [hMe]; omega) | (exact lenI_nn _) | trivial | (refine hInv _ ?_) | (refine hInv _ _ ?_) | (refine hInv _ _ _ ?_) | (refine hInv _ _ _ _ ?_) | (refine hE0 _ ?_) | (refine hE0 _ _ ?_) | (refine hE0 _ _ _ ?_) | (refine hE0 _ _ _ _ ?_) | (refine hR _ ?_) | (refine hR _ _ ?_) | (refine hR _ _ _ ?_) | (refine hR _ _ _ _ ?_) | refine ⟨?_, ?_⟩ | intro _))
  · simp only [ltB_f.2 (Int.not_lt.1 hlt), simpsL, implies_true, forall_const, if_true, if_false, reduceCtorEq]
    (repeat' (first | with_reducible rfl | assumption | omega | (apply Eq.symm; assumption) | (simp only [hMe]; omega) | (exact lenI_nn _) | trivial | (refine hInv _ ?_) | (refine hInv _ _ ?_) | (refine hInv _ _ _ ?_) | (refine hInv _ _ _ _ ?_) | (refine hE0 _ ?_) | (refine hE0 _ _ ?_) | (refine hE0 _ _ _ ?_) | (refine hE0 _ _ _ _ ?_) | (refine hR _ ?_) | (refine hR _ _ ?_) | (refine hR _ _ _ ?_) | (refine hR _ _ _ _ ?_) | refine ⟨?_, ?_⟩ | intro _))
theorem summ_copiedL : SummOK Try.prog (loopAt Try.f38 3) S_copiedL :=
  summN_ok (L := []) (fuel := 100) tabOK fsOK_same (mkCall fsOK_same specsOK_nil fnsOK) (fun C => mkDraw fsOK_same (mkCall fsOK_same specsOK_nil fnsOK) C) loopsOK_nil Inv_copiedL M_copiedL
    (fun x hp hw => by
      obtain ⟨xs, len, i⟩ := x
      have hp : i = 0 ∧ len = lenI xs ∧ termsFit xs := hp
      have hw_xs := wfR_row hw 0 rfl
      have hw_len := wfL_int hw 8 rfl
      have hw_i := wfL_int hw 9 rfl
      obtain ⟨rfl, rfl, h⟩ := hp
      exact ⟨⟨rfl, rfl⟩, by omega, lenI_nn _⟩)
    (body_copiedL_ok)
noncomputable def fns_copied : Fns := (38, Try.f38, [(3, S_copiedL)]) :: fns
theorem fn_copied : FnOK Try.prog 38 Try.f38 [(3, S_copiedL)] := fnOK_loops Try.func38 (fun vs w => Try.call38 vs w) (by kernel_rfl) fun k S h => by
  simp only [List.mem_cons, Prod.mk.injEq, List.not_mem_nil, or_false] at h
  obtain ⟨rfl, rfl⟩ := h
  exact summ_copiedL
theorem fns_copiedOK : FnsOK Try.prog fns_copied := fnsOK_cons fn_copied fnsOK
noncomputable def copiedS : List AV → OV := fun args => match args with | [.view [] (.prod (.int .i64) (.prod (.int .i64) (.prod (.int .i64) (.prod (.int .i64) (.prod (.list (.prod .str (.int .i64))) (.int .i64)))))) n] => some ([fits n, termsFit n], .view [] NodeT n) | _ => none
theorem copied_eq (n : List (den NodeT)) : acall tab fs_same [] fns_copied 100 20 38 [.view [] NodeT n] [] (fun o mm _ _ => resN (.sl NodeT) mm o = .ret (.view [] NodeT n)) =
  (need (imp (lenI n = 0) (eqI 0 0 (eqI 0 0 (eqD (@List.nil (den NodeT)) (@List.nil (den NodeT)) (((0 : Int) = 0 ∧ (0 : Int) = 0 ∧ termsFit (@List.nil (den NodeT)))
    ∧ ((∀ (y : X_copiedL), (y.1 = @List.nil (den NodeT) ∧ y.2.1 = 0) ∧ True → AOut.ret (AV.view (@List.nil Nat) NodeT y.1) = AOut.ret (AV.view (@List.nil Nat) NodeT
    n)) ∧ True) ∧ ∀ (y : X_copiedL), (y.1 = @List.nil (den NodeT) ∧ y.2.1 = 0) ∧ False → AOut.ret AV.bad = AOut.ret (AV.view (@List.nil Nat) NodeT n)))))) (need (fitA
    (0 + lenI n)) (eqI (lenI (appL (@List.nil (den NodeT)) n)) (lenI (appL (@List.nil (den NodeT)) n)) (eqI 0 0 (eqD (appL (@List.nil (den NodeT)) n) (appL (@List.nil
    (den NodeT)) n) (((0 : Int) = 0 ∧ lenI (appL (@List.nil (den NodeT)) n) = lenI (appL (@List.nil (den NodeT)) n) ∧ termsFit (appL (@List.nil (den NodeT)) n)) ∧ ((∀
    (y : X_copiedL), (y.1 = appL (@List.nil (den NodeT)) n ∧ y.2.1 = lenI (appL (@List.nil (den NodeT)) n)) ∧ True → AOut.ret (AV.view (@List.nil Nat) NodeT y.1) = AOut.ret
    (AV.view (@List.nil Nat) NodeT n)) ∧ True) ∧ ∀ (y : X_copiedL), (y.1 = appL (@List.nil (den NodeT)) n ∧ y.2.1 = lenI (appL (@List.nil (den NodeT)) n)) ∧ False →
    AOut.ret AV.bad = AOut.ret (AV.view (@List.nil Nat) NodeT n))))))) := by kernel_rfl
theorem copied_ok : SpecOK Try.prog 38 (fspecS (pureN [.sl NodeT] copiedS)) := pureN_ok (mkCall fsOK_same specsOK_nil fns_copiedOK) (.sl NodeT) (fun vs w => Try.call38 vs w) fun args ps v h hp hw => by
  unfold copiedS at h
  split at h
  · cases h
    rename_i n
    rw [copied_eq]
    refine ⟨?_⟩
    simp only [allP_cons, allP_nil, and_true] at hp
    simp only [wfAL, wfA, wfS, wfM, wfB, and_true, true_and, wfT_int, wfT_str, wfT_bool, wfT_prod] at hw
    unfold fits at hp
    simp only [simpsL, implies_true, forall_const, if_true, if_false, reduceCtorEq]
    have h0 : lenI n = 0 → n = [] := fun h => by cases n with | nil => rfl | cons a l => simp only [lenI, List.length_cons] at h; omega
    refine ⟨fun h => ?_, by unfold fitA; omega, by simpa using hp.2, ?_⟩
    · have e := h0 h
      subst e
      refine ⟨hp.2, ?_⟩
      rintro y ⟨h1, h2⟩
      rw [h1]
    · rintro y ⟨h1, h2⟩
      rw [h1, List.nil_append]
  · cases h
noncomputable def FF_copied : FSpec := pureN [.sl NodeT] copiedS
theorem FFok_copied : SpecOK Try.prog 38 (fspecS FF_copied) := copied_ok
noncomputable def fs_copied : FS := (38, FF_copied) :: fs_same
theorem fsOK_copied : FSOK Try.prog fs_copied := fsOK_cons FFok_copied fsOK_same
theorem skipT_le {L : Int} {l : List (den NodeT)} {a : Int} (h : a ≤ 0) : skipT L l a = some l := by
  cases l <;> simp only [skipT] <;> rw [if_pos h]
theorem skipT_drop {L : Int} : ∀ {l : List (den NodeT)} {a : Int} {r : List (den NodeT)}, skipT L l a = some r → ∃ k, r = l.drop k ∧ k ≤ l.length ∧ (0 < a → 0 < k)
  | [], a, r, h => by
    simp only [skipT] at h
    split at h
    · cases h; exact ⟨0, rfl, Nat.le_refl _, fun h => by omega⟩
    · cases h
  | x :: l, a, r, h => by
    simp only [skipT] at h
    split at h
    · cases h; exact ⟨0, rfl, Nat.zero_le _, fun h => by omega⟩
    · split at h
      · cases h
      · obtain ⟨k, h1, h2, _⟩ := skipT_drop h
        exact ⟨k + 1, by simpa using h1, by simp; exact h2, fun _ => Nat.succ_pos _⟩
theorem skipT_cons {L : Int} {x : den NodeT} {l : List (den NodeT)} {a : Int} (h : 0 < a) : skipT L (x :: l) a = if x.2.1 < 0 ∨ L < x.2.1 then none else skipT L l (a + x.2.1 - 1) := by
  simp only [skipT]; rw [if_neg (by omega)]
theorem skipT_add {L : Int} : ∀ {l : List (den NodeT)} {a b : Int}, 0 ≤ a → 0 ≤ b → skipT L l (a + b) = (skipT L l a).bind fun r => skipT L r b
  | [], a, b, ha, hb => by
    by_cases h : a = 0
    · subst h; rw [skipT_le (a := 0) (by omega)]; simp
    · simp only [skipT]; rw [if_neg (by omega), if_neg (by omega)]; rfl
  | x :: l, a, b, ha, hb => by
    by_cases h : a = 0
    · subst h; rw [skipT_le (a := 0) (by omega)]; simp
    · rw [skipT_cons (by omega), skipT_cons (by omega)]
      obtain ⟨x1, x2, x3, rfl⟩ : ∃ (q1 q2 : Int) (q3 : Int × Int × List (den TermT) × Int), x = (q1, q2, q3) := ⟨_, _, _, rfl⟩
      dsimp only
      by_cases hx : x2 < 0 ∨ L < x2
      · rw [if_pos hx, if_pos hx]; rfl
      · rw [if_neg hx, if_neg hx, show a + b + x2 - 1 = (a + x2 - 1) + b by omega]
        exact skipT_add (by omega) hb
def cutT (L : Int) : Nat → List (den NodeT) → List (List (den NodeT))
  | 0, _ => []
  | k + 1, l => match l with
    | [] => []
    | x :: l => match skipT L (x :: l) 1 with
      | none => []
      | some r => (x :: l).take ((x :: l).length - r.length) :: cutT L k r
def partsB (n : List (den NodeT)) : Bool := decide (endF n 0 = lenI n) && decide (lenI n ≠ 0)
def partsF (n : List (den NodeT)) : List (List (den NodeT)) := if partsB n = true then cutT (lenI n) n.length (n.drop 1) else []
abbrev X_partsL := List (den NodeT) × List (den (.list NodeT)) × Int
def sh_partsL : X_partsL → St := fun x => match x with | (n, out, p) => ⟨setL (rep .bad 33) [(0, .view [] NodeT n), (5, .int .i64 p), (4, .own 0)], [.row 28 (.list NodeT) out []], [0, 1], [0, 1]⟩
def sx_partsL : AExit → X_partsL → St := fun _ => sh_partsL
def nx_partsL (σ : St) : X_partsL := (gV NodeT σ 0, rV (.list NodeT) σ 0, gI σ 5)
def Pre_partsL : X_partsL → Prop := fun x => match x with | (n, out, p) => p = 1 ∧ out = [] ∧ smallL n ∧ partsB n = true
def E0_partsL : X_partsL → X_partsL → Prop := fun x y => match x, y with | (n0, out0, p0), (n, out, p) => (n = n0) ∧ (out = partsF n)
def R_partsL : X_partsL → X_partsL → Prop := fun x y => match x, y with | (n0, out0, p0), (n, out, p) => (n = n0) ∧ (False)
def D_partsL : X_partsL → LEnds X_partsL := fun x => ⟨[(0, E0_partsL x)], R_partsL x⟩
noncomputable def S_partsL : Summ := summN sh_partsL sx_partsL nx_partsL Pre_partsL D_partsL
def Inv_partsL : X_partsL → X_partsL → Prop := fun x y => match x, y with | (n0, out0, p0), (n, out, p) => (n = n0) ∧ ((1 ≤ p ∧ p ≤ lenI n) ∧ lenI out ≤ p ∧ (∃ a : Int, 0 ≤ a ∧ skipT (lenI n) (n.drop p.toNat) a = some []) ∧ ∃ k : Nat, (n.drop p.toNat).length ≤ k ∧ out ++ cutT (lenI n) k (n.drop p.toNat) = partsF n)
def M_partsL : X_partsL → X_partsL → Nat := fun x y => match x, y with | (n0, out0, p0), (n, out, p) => (lenI n - p).toNat
theorem body_partsL (Inv : X_partsL → Prop) (meas : X_partsL → Nat) (nn : Nat) (EE0 RR : X_partsL → Prop) (n : List (den NodeT)) (out : List (den (.list NodeT))) (p : Int) : awp tab fs_copied (acall tab fs_copied [] fns 100 20) [] 100 (loopAt Try.f76 5) (bodyN sh_partsL sx_partsL nx_partsL Inv meas nn ⟨[(0, EE0)], RR⟩) (sh_partsL (n, out, p)) =
  (ifB (ltB p (lenI n)) (need (geZ p) (need (smallL n) (need (leI 0 p) (need (leI p (endF n p)) (need (leI (endF n p) (lenI n)) (need (fitA (lenI out + 1)) (eqD n n
    (eqI (endF n p) (endF n p) (eqD (appL out (subL n p (endF n p) :: @List.nil (den NodeT.list))) (appL out (subL n p (endF n p) :: @List.nil (den NodeT.list))) (Inv
    (n, appL out (subL n p (endF n p) :: @List.nil (den NodeT.list)), endF n p) ∧ meas (n, appL out (subL n p (endF n p) :: @List.nil (den NodeT.list)), endF n p) <
    nn)))))))))) (eqD n n (eqI p p (eqD out out (EE0 (n, out, p)))))) := by kernel_rfl
theorem body_partsL_ok : ∀ x y, Pre_partsL x → Inv_partsL x y → wfS (sh_partsL y) → Hd (awp tab fs_copied (acall tab fs_copied [] fns 100 20) [] 100 (loopAt Try.f76 5) (bodyN sh_partsL sx_partsL nx_partsL (Inv_partsL x) (M_partsL x) (M_partsL x y) (D_partsL x)) (sh_partsL y)) := by
  rintro ⟨n0, out0, p0⟩ ⟨n, out, p⟩ hp hI hw
  obtain ⟨rfl, hI⟩ := hI
  have hw_n := wfL_view hw 0 rfl
  have hw_out := wfR_row hw 0 rfl
  have hw_p := wfL_int hw 5 rfl
  have hp : p0 = 1 ∧ out0 = [] ∧ smallL n ∧ partsB n = true := hp
  unfold D_partsL
  rw [body_partsL]
  refine ⟨?_⟩
  have hInv : ∀ (out : List (den (.list NodeT))) (p : Int), ((1 ≤ p ∧ p ≤ lenI n) ∧ lenI out ≤ p ∧ (∃ a : Int, 0 ≤ a ∧ skipT (lenI n) (n.drop p.toNat) a = some []) ∧ ∃ k : Nat, (n.drop p.toNat).length ≤ k ∧ out ++ cutT (lenI n) k (n.drop p.toNat) = partsF n) → Inv_partsL (n, out0, p0) (n, out, p) := fun _ _ h => ⟨rfl, h⟩
  generalize hIe : Inv_partsL (n, out0, p0) = Inv at hInv ⊢
  have hMe : ∀ (out : List (den (.list NodeT))) (p : Int), M_partsL (n, out0, p0) (n, out, p) = (lenI n - p).toNat := fun _ _ => rfl
  generalize M_partsL (n, out0, p0) = Me at hMe ⊢
  have hE0 : ∀ (out : List (den (.list NodeT))) (p : Int), (out = partsF n) → E0_partsL (n, out0, p0) (n, out, p) := fun _ _ h => ⟨rfl, h⟩
  generalize E0_partsL (n, out0, p0) = EE0 at hE0 ⊢
  have hR : ∀ (out : List (den (.list NodeT))) (p : Int), (False) → R_partsL (n, out0, p0) (n, out, p) := fun _ _ h => ⟨rfl, h⟩
  generalize R_partsL (n, out0, p0) = RR at hR ⊢
  obtain ⟨hi, ho, ⟨a, ha, hs⟩, k, hk, hI⟩ := hI
  obtain ⟨p1, p2, p3, p4⟩ := hp
  have p3' := p3
  unfold smallL at p3'
  by_cases hlt : p < lenI n
  · obtain ⟨l, hl⟩ : ∃ l, n.drop p.toNat = l := ⟨_, rfl⟩
    rw [hl] at hs hk hI
    have hll : lenI l = lenI n - p := by rw [← hl]; unfold lenI at *; simp only [List.length_drop]; omega
    have hne : l ≠ [] := fun h => by rw [h, lenI_nil] at hll; omega
    have ha1 : 1 ≤ a := by
      by_cases h : a ≤ 0
      · rw [skipT_le h] at hs; cases hs; exact absurd rfl hne
      · omega
    have hadd := skipT_add (L := lenI n) (l := l) (a := 1) (b := a - 1) (by omega) (by omega)
    rw [show (1 : Int) + (a - 1) = a by omega, hs] at hadd
    cases h1 : skipT (lenI n) l 1 with
    | none => rw [h1] at hadd; cases hadd
    | some r =>
      rw [h1] at hadd
      have h2 : skipT (lenI n) r (a - 1) = some [] := hadd.symm
      obtain ⟨j, hr, hj, hpos⟩ := skipT_drop h1
      have hj0 := hpos (by omega)
      have hlr : lenI r = lenI l - j := by rw [hr]; unfold lenI; simp only [List.length_drop]; omega
      have hjl : (j : Int) ≤ lenI l := by unfold lenI; omega
      have he : endF n p = p + j := by
        unfold endF
        rw [hl, h1]
        simp only [endR]
        omega
      have hdr : n.drop (p + j).toNat = r := by
        rw [hr, ← hl, List.drop_drop]
        congr 1
        omega
      have hsub : subL n p (p + j) = l.take j := by
        rw [← hl]; unfold subL
        rw [List.drop_take]
        congr 1
        omega
      cases l with
      | nil => exact absurd rfl hne
      | cons x l =>
        cases k with
        | zero => simp at hk
        | succ k =>
          simp only [cutT] at hI
          rw [h1] at hI
          dsimp only at hI
          have hlen : (x :: l).length - r.length = j := by unfold lenI at hlr hjl; omega
          rw [hlen] at hI
          have g1 : geZ p := by unfold geZ; omega
          have g2 : leI 0 p := by unfold leI; omega
          have g3 : leI p (p + j) := by unfold leI; omega
          have g4 : leI (p + j) (lenI n) := by unfold leI; omega
          have g5 : fitA (lenI out + 1) := by unfold fitA; omega
          simp only [ltB_t.2 hlt, he, hsub, g1, g2, g3, g4, g5, p3, simpsL, implies_true, forall_const, if_true, if_false, reduceCtorEq]
          refine ⟨hInv _ _ ⟨⟨by omega, by omega⟩, by rw [len_snoc]; omega, ⟨a - 1, by omega, by rw [hdr]; exact h2⟩, k, ?_, ?_⟩, by simp only [hMe]; omega⟩
          · rw [hdr]; unfold lenI at hlr; simp only [List.length_cons] at *; omega
          · rw [hdr, List.append_assoc]; exact hI
  · have hd : n.drop p.toNat = [] := List.drop_eq_nil_of_le (by unfold lenI at hlt; omega)
    rw [hd] at hI
    have hc : cutT (lenI n) k [] = [] := by cases k <;> rfl
    rw [hc, List.append_nil] at hI
    simp only [ltB_f.2 (Int.not_lt.1 hlt), simpsL, implies_true, forall_const, if_true, if_false, reduceCtorEq]
    exact hE0 _ _ hI
theorem summ_partsL : SummOK Try.prog (loopAt Try.f76 5) S_partsL :=
  summN_ok (L := []) (fuel := 100) tabOK fsOK_copied (mkCall fsOK_copied specsOK_nil fnsOK) (fun C => mkDraw fsOK_copied (mkCall fsOK_copied specsOK_nil fnsOK) C) loopsOK_nil Inv_partsL M_partsL
    (fun x hp hw => by
      obtain ⟨n, out, p⟩ := x
      have hp : p = 1 ∧ out = [] ∧ smallL n ∧ partsB n = true := hp
      have hw_n := wfL_view hw 0 rfl
      have hw_out := wfR_row hw 0 rfl
      have hw_p := wfL_int hw 5 rfl
      obtain ⟨rfl, rfl, h1, h2⟩ := hp
      have hB := h2
      simp only [partsB, Bool.and_eq_true, decide_eq_true_eq] at h2
      cases n with
      | nil => exact absurd rfl h2.2
      | cons x l =>
        have hl := lenI_nn l
        refine ⟨rfl, ⟨by omega, by rw [len_cons]; omega⟩, by simp only [lenI_nil]; omega, ?_, l.length + 1, by simp, by simp only [partsF, hB, if_true, List.nil_append]; rfl⟩
        obtain ⟨h3, _⟩ := h2
        obtain ⟨x1, x2, x3, rfl⟩ : ∃ (q1 q2 : Int) (q3 : Int × Int × List (den TermT) × Int), x = (q1, q2, q3) := ⟨_, _, _, rfl⟩
        unfold endF at h3
        simp only [show (0 : Int).toNat = 0 from rfl, List.drop_zero] at h3
        cases hs : skipT (lenI ((x1, x2, x3) :: l)) ((x1, x2, x3) :: l) 1 with
        | none => rw [hs] at h3; simp only [endR, len_cons] at h3; omega
        | some r =>
          rw [hs] at h3
          simp only [endR] at h3
          have hr : r = [] := by cases r with | nil => rfl | cons y r => have := lenI_nn r; rw [len_cons] at h3; rw [len_cons] at h3; omega
          subst hr
          rw [skipT_cons (by omega)] at hs
          dsimp only at hs
          by_cases hx : x2 < 0 ∨ lenI ((x1, x2, x3) :: l) < x2
          · rw [if_pos hx] at hs; cases hs
          · rw [if_neg hx, show (1 : Int) + x2 - 1 = x2 by omega] at hs
            exact ⟨x2, by omega, hs⟩)
    (body_partsL_ok)
noncomputable def fns_parts : Fns := (76, Try.f76, [(5, S_partsL)]) :: fns
theorem fn_parts : FnOK Try.prog 76 Try.f76 [(5, S_partsL)] := fnOK_loops Try.func76 (fun vs w => Try.call76 vs w) (by kernel_rfl) fun k S h => by
  simp only [List.mem_cons, Prod.mk.injEq, List.not_mem_nil, or_false] at h
  obtain ⟨rfl, rfl⟩ := h
  exact summ_partsL
theorem fns_partsOK : FnsOK Try.prog fns_parts := fnsOK_cons fn_parts fnsOK
noncomputable def partsS : List AV → OV := fun args => match args with | [.view [] (.prod (.int .i64) (.prod (.int .i64) (.prod (.int .i64) (.prod (.int .i64) (.prod (.list (.prod .str (.int .i64))) (.int .i64)))))) n] => some ([smallL n], .tup [.view [] (.list NodeT) (partsF n), .bool (partsB n)]) | _ => none
theorem parts_eq (n : List (den NodeT)) : acall tab fs_copied [] fns_parts 100 20 76 [.view [] NodeT n] [] (fun o mm _ _ => resN (.ag [.sl (.list NodeT), .any]) mm o = .ret (.tup [.view [] (.list NodeT) (partsF n), .bool (partsB n)])) =
  (need (geZ 0) (need (smallL n) (ifB (selB (notB (eqB (endF n 0) (lenI n))) true (eqB (lenI n) 0)) (AOut.ret (AV.tup (AV.view (@List.nil Nat) NodeT.list (@List.nil
    (den NodeT.list)) :: AV.bool false :: @List.nil AV)) = AOut.ret (AV.tup (AV.view (@List.nil Nat) NodeT.list (partsF n) :: AV.bool (partsB n) :: @List.nil AV))) (eqD
    n n (eqI 1 1 (eqD (@List.nil (den NodeT.list)) (@List.nil (den NodeT.list)) (((1 : Int) = 1 ∧ @List.nil (den NodeT.list) = @List.nil (den NodeT.list) ∧ smallL n
    ∧ partsB n = true) ∧ ((∀ (y : X_partsL), y.1 = n ∧ y.2.1 = partsF y.1 → AOut.ret (AV.tup (AV.view (@List.nil Nat) NodeT.list y.2.1 :: AV.bool true :: @List.nil AV))
    = AOut.ret (AV.tup (AV.view (@List.nil Nat) NodeT.list (partsF n) :: AV.bool (partsB n) :: @List.nil AV))) ∧ True) ∧ ∀ (y : X_partsL), y.1 = n ∧ False → AOut.ret
    (AV.tup (AV.bad :: AV.bad :: @List.nil AV)) = AOut.ret (AV.tup (AV.view (@List.nil Nat) NodeT.list (partsF n) :: AV.bool (partsB n) :: @List.nil AV))))))))) := by kernel_rfl
theorem parts_ok : SpecOK Try.prog 76 (fspecS (pureN [.sl NodeT] partsS)) := pureN_ok (mkCall fsOK_copied specsOK_nil fns_partsOK) (.ag [.sl (.list NodeT), .any]) (fun vs w => Try.call76 vs w) fun args ps v h hp hw => by
  unfold partsS at h
  split at h
  · cases h
    rename_i n
    rw [parts_eq]
    refine ⟨?_⟩
    simp only [allP_cons, allP_nil, and_true] at hp
    simp only [wfAL, wfA, wfS, wfM, wfB, and_true, true_and, wfT_int, wfT_str, wfT_bool, wfT_prod] at hw
    simp only [simpsL, implies_true, forall_const, if_true, if_false, reduceCtorEq]
    have hp' : smallL n := hp
    refine ⟨by omega, hp', fun h => ?_, fun h => ⟨⟨hp', ?_⟩, ?_⟩⟩
    · have hB : partsB n = false := by simp only [partsB]; grind
      have hF : partsF n = [] := by unfold partsF; rw [hB]; rfl
      rw [hB, hF]
    · simp only [partsB]; grind
    · have hB : partsB n = true := by simp only [partsB]; grind
      rintro y ⟨h1, h2⟩
      rw [h2, h1, hB]
  · cases h
noncomputable def FF_parts : FSpec := pureN [.sl NodeT] partsS
theorem FFok_parts : SpecOK Try.prog 76 (fspecS FF_parts) := parts_ok
noncomputable def fs_parts : FS := (76, FF_parts) :: fs_copied
theorem fsOK_parts : FSOK Try.prog fs_parts := fsOK_cons FFok_parts fsOK_copied
def makeF (op fr to : Int) (ts : List (den TermT)) (num : Int) (l : List (List (den NodeT))) : List (den NodeT) := (op, lenI l, fr, to, ts, num) :: l.flatten
def catM (a : List (den NodeT)) (l : List (List (den NodeT))) : List (den NodeT) := a ++ l.flatten
def allFit (l : List (List (den NodeT))) : Prop := (∀ n ∈ l, fits n ∧ termsFit n) ∧ fits l.flatten
abbrev X_makeL := List (den NodeT) × List (den (.list NodeT)) × Int × Int
def sh_makeL : X_makeL → St := fun x => match x with | (out, l, len, i) => ⟨setL (rep .bad 26) [(14, .view [] (.list NodeT) l), (15, .int .i64 len), (16, .int .i64 i), (5, .own 2)], [.dead, .dead, .row 24 NodeT out [1]], [0, 1, 2, 3], [0, 1, 2, 3]⟩
def sx_makeL : AExit → X_makeL → St := fun _ => sh_makeL
def nx_makeL (σ : St) : X_makeL := (rV NodeT σ 2, gV (.list NodeT) σ 14, gI σ 15, gI σ 16)
def Pre_makeL : X_makeL → Prop := fun x => match x with | (out, l, len, i) => i = 0 ∧ len = lenI l ∧ allFit l ∧ lenI out = 1
def E0_makeL : X_makeL → X_makeL → Prop := fun x y => match x, y with | (out0, l0, len0, i0), (out, l, len, i) => (l = l0 ∧ len = len0) ∧ (out = catM out0 l)
def R_makeL : X_makeL → X_makeL → Prop := fun x y => match x, y with | (out0, l0, len0, i0), (out, l, len, i) => (l = l0 ∧ len = len0) ∧ (False)
def D_makeL : X_makeL → LEnds X_makeL := fun x => ⟨[(0, E0_makeL x)], R_makeL x⟩
noncomputable def S_makeL : Summ := summN sh_makeL sx_makeL nx_makeL Pre_makeL D_makeL
def Inv_makeL : X_makeL → X_makeL → Prop := fun x y => match x, y with | (out0, l0, len0, i0), (out, l, len, i) => (l = l0 ∧ len = len0) ∧ ((0 ≤ i ∧ i ≤ len) ∧ out ++ (l.drop i.toNat).flatten = catM out0 l)
def M_makeL : X_makeL → X_makeL → Nat := fun x y => match x, y with | (out0, l0, len0, i0), (out, l, len, i) => (len - i).toNat
theorem body_makeL (Inv : X_makeL → Prop) (meas : X_makeL → Nat) (nn : Nat) (EE0 RR : X_makeL → Prop) (out : List (den NodeT)) (l : List (den (.list NodeT))) (len : Int) (i : Int) : awp tab fs_parts (acall tab fs_parts [] fns 100 20) [] 100 (loopAt Try.f19 4) (bodyN sh_makeL sx_makeL nx_makeL Inv meas nn ⟨[(0, EE0)], RR⟩) (sh_makeL (out, l, len, i)) =
  (ifB (ltB i len) (need (inI i (lenI l)) (need (fits (nth NodeT.list l i)) (need (termsFit (nth NodeT.list l i)) (need (fitA (lenI out + lenI (nth NodeT.list l i)))
    (eqD l l (eqI len len (eqI (addW IntKind.i64 i 1) (addW IntKind.i64 i 1) (eqD (appL out (nth NodeT.list l i)) (appL out (nth NodeT.list l i)) (Inv (appL out (nth
    NodeT.list l i), l, len, addW IntKind.i64 i 1) ∧ meas (appL out (nth NodeT.list l i), l, len, addW IntKind.i64 i 1) < nn))))))))) (eqD l l (eqI len len (eqI i i
    (eqD out out (EE0 (out, l, len, i))))))) := by kernel_rfl
theorem body_makeL_ok : ∀ x y, Pre_makeL x → Inv_makeL x y → wfS (sh_makeL y) → Hd (awp tab fs_parts (acall tab fs_parts [] fns 100 20) [] 100 (loopAt Try.f19 4) (bodyN sh_makeL sx_makeL nx_makeL (Inv_makeL x) (M_makeL x) (M_makeL x y) (D_makeL x)) (sh_makeL y)) := by
  rintro ⟨out0, l0, len0, i0⟩ ⟨out, l, len, i⟩ hp hI hw
  obtain ⟨⟨rfl, rfl⟩, hI⟩ := hI
  have hw_out := wfR_row hw 2 rfl
  have hw_l := wfL_view hw 14 rfl
  have hw_len := wfL_int hw 15 rfl
  have hw_i := wfL_int hw 16 rfl
  have hp : i0 = 0 ∧ len = lenI l ∧ allFit l ∧ lenI out0 = 1 := hp
  unfold D_makeL
  rw [body_makeL]
  refine ⟨?_⟩
  have hInv : ∀ (out : List (den NodeT)) (i : Int), ((0 ≤ i ∧ i ≤ len) ∧ out ++ (l.drop i.toNat).flatten = catM out0 l) → Inv_makeL (out0, l, len, i0) (out, l, len, i) := fun _ _ h => ⟨⟨rfl, rfl⟩, h⟩
  generalize hIe : Inv_makeL (out0, l, len, i0) = Inv at hInv ⊢
  have hMe : ∀ (out : List (den NodeT)) (i : Int), M_makeL (out0, l, len, i0) (out, l, len, i) = (len - i).toNat := fun _ _ => rfl
  generalize M_makeL (out0, l, len, i0) = Me at hMe ⊢
  have hE0 : ∀ (out : List (den NodeT)) (i : Int), (out = catM out0 l) → E0_makeL (out0, l, len, i0) (out, l, len, i) := fun _ _ h => ⟨⟨rfl, rfl⟩, h⟩
  generalize E0_makeL (out0, l, len, i0) = EE0 at hE0 ⊢
  have hR : ∀ (out : List (den NodeT)) (i : Int), (False) → R_makeL (out0, l, len, i0) (out, l, len, i) := fun _ _ h => ⟨⟨rfl, rfl⟩, h⟩
  generalize R_makeL (out0, l, len, i0) = RR at hR ⊢
  obtain ⟨hi, hI⟩ := hI
  obtain ⟨p1, rfl, p3, p4⟩ := hp
  have hlen := wfT_len hw_l
  by_cases hlt : i < lenI l
  · have ei : addW .i64 i 1 = i + 1 := addW64 (by omega) (by omega)
    have hin : inI i (lenI l) := ⟨hi.1, hlt⟩
    have hmem := nth_mem (t := .list NodeT) hi.1 hlt
    obtain ⟨f1, f2⟩ := p3.1 _ hmem
    have p4' : lenI out0 = 1 := p4
    have hfit : fitA (lenI out + lenI (nth (.list NodeT) l i)) := by
      have h1 := congrArg lenI hI
      rw [drop_nth (t := .list NodeT) hi.1 hlt] at h1
      simp only [List.flatten_cons, lenI_app, catM] at h1
      have h2 := p3.2
      have h3 := lenI_nn ((l.drop (i + 1).toNat).flatten)
      unfold fits at h2
      unfold fitA
      omega
    rw [drop_nth (t := .list NodeT) hi.1 hlt] at hI
    simp only [List.flatten_cons] at hI
    simp only [ltB_t.2 hlt, hin, f1, f2, hfit, ei, simpsL, implies_true, forall_const, if_true, if_false, reduceCtorEq]
    refine ⟨hInv _ _ ⟨⟨by omega, by omega⟩, by rw [List.append_assoc]; exact hI⟩, by simp only [hMe]; omega⟩
  · rw [drop_all (by omega)] at hI
    simp only [List.flatten_nil, List.append_nil] at hI
    simp only [ltB_f.2 (Int.not_lt.1 hlt), simpsL, implies_true, forall_const, if_true, if_false, reduceCtorEq]
    exact hE0 _ _ hI
theorem summ_makeL : SummOK Try.prog (loopAt Try.f19 4) S_makeL :=
  summN_ok (L := []) (fuel := 100) tabOK fsOK_parts (mkCall fsOK_parts specsOK_nil fnsOK) (fun C => mkDraw fsOK_parts (mkCall fsOK_parts specsOK_nil fnsOK) C) loopsOK_nil Inv_makeL M_makeL
    (fun x hp hw => by
      obtain ⟨out, l, len, i⟩ := x
      have hp : i = 0 ∧ len = lenI l ∧ allFit l ∧ lenI out = 1 := hp
      have hw_out := wfR_row hw 2 rfl
      have hw_l := wfL_view hw 14 rfl
      have hw_len := wfL_int hw 15 rfl
      have hw_i := wfL_int hw 16 rfl
      obtain ⟨rfl, rfl, h, h1⟩ := hp
      exact ⟨⟨rfl, rfl⟩, ⟨by omega, lenI_nn _⟩, rfl⟩)
    (body_makeL_ok)
noncomputable def fns_copiedS : Fns := (38, Try.f38, [(3, S_copiedL)]) :: fns
theorem fn_copiedS : FnOK Try.prog 38 Try.f38 [(3, S_copiedL)] := fnOK_loops Try.func38 (fun vs w => Try.call38 vs w) (by kernel_rfl) fun k S h => by
  simp only [List.mem_cons, Prod.mk.injEq, List.not_mem_nil, or_false] at h
  obtain ⟨rfl, rfl⟩ := h
  exact summ_copiedL
theorem fns_copiedSOK : FnsOK Try.prog fns_copiedS := fnsOK_cons fn_copiedS fnsOK
noncomputable def copiedSS : List AV → List Blk → AK → Prop := fun args m K => match args, m with | [.view [] (.prod (.int .i64) (.prod (.int .i64) (.prod (.int .i64) (.prod (.int .i64) (.prod (.list (.prod .str (.int .i64))) (.int .i64)))))) n], [] => need (fits n) (need (termsFit n) (K (.ret (.own 0)) [.row 24 NodeT n []] [0, 1] [0, 1])) | _, _ => False
theorem copiedS_eq (K : AK) (n : List (den NodeT)) : acall tab fs_same [] fns_copiedS 100 20 38 [.view [] NodeT n] [] K =
  (need (imp (lenI n = 0) (eqI 0 0 (eqI 0 0 (eqD (@List.nil (den NodeT)) (@List.nil (den NodeT)) (((0 : Int) = 0 ∧ (0 : Int) = 0 ∧ termsFit (@List.nil (den NodeT)))
    ∧ ((∀ (y : X_copiedL), (y.1 = @List.nil (den NodeT) ∧ y.2.1 = 0) ∧ True → K (AOut.ret (AV.own 0)) (Blk.row 24 NodeT y.1 (@List.nil Nat) :: @List.nil Blk) (0 :: 1
    :: @List.nil Nat) (0 :: 1 :: @List.nil Nat)) ∧ True) ∧ ∀ (y : X_copiedL), (y.1 = @List.nil (den NodeT) ∧ y.2.1 = 0) ∧ False → K (AOut.ret AV.bad) (@List.nil Blk)
    (@List.nil Nat) (@List.nil Nat)))))) (need (fitA (0 + lenI n)) (eqI (lenI (appL (@List.nil (den NodeT)) n)) (lenI (appL (@List.nil (den NodeT)) n)) (eqI 0 0 (eqD
    (appL (@List.nil (den NodeT)) n) (appL (@List.nil (den NodeT)) n) (((0 : Int) = 0 ∧ lenI (appL (@List.nil (den NodeT)) n) = lenI (appL (@List.nil (den NodeT)) n)
    ∧ termsFit (appL (@List.nil (den NodeT)) n)) ∧ ((∀ (y : X_copiedL), (y.1 = appL (@List.nil (den NodeT)) n ∧ y.2.1 = lenI (appL (@List.nil (den NodeT)) n)) ∧ True
    → K (AOut.ret (AV.own 0)) (Blk.row 24 NodeT y.1 (@List.nil Nat) :: @List.nil Blk) (0 :: 1 :: @List.nil Nat) (0 :: 1 :: @List.nil Nat)) ∧ True) ∧ ∀ (y : X_copiedL),
    (y.1 = appL (@List.nil (den NodeT)) n ∧ y.2.1 = lenI (appL (@List.nil (den NodeT)) n)) ∧ False → K (AOut.ret AV.bad) (@List.nil Blk) (@List.nil Nat) (@List.nil Nat))))))) := by kernel_rfl
theorem copiedS_ok : SpecOK Try.prog 38 copiedSS := specOK_of (mkCall fsOK_same specsOK_nil fns_copiedSOK) (fun vs w => Try.call38 vs w) fun args m K h hw hwm => by
  unfold copiedSS at h
  split at h
  · rename_i n
    rw [copiedS_eq]
    refine ⟨?_⟩
    simp only [wfAL, wfA, wfS, wfM, wfB, and_true, true_and, wfT_int, wfT_str, wfT_bool, wfT_prod] at hw hwm
    obtain ⟨h1, h2, h⟩ := h
    unfold fits at h1
    simp only [simpsL, implies_true, forall_const, if_true, if_false, reduceCtorEq]
    have h0 : lenI n = 0 → n = [] := fun h => by cases n with | nil => rfl | cons a l => simp only [lenI, List.length_cons] at h; omega
    refine ⟨fun he => ⟨?_, ?_⟩, by unfold fitA; omega, by simpa using h2, ?_⟩
    · have e := h0 he
      subst e
      exact h2
    · have e := h0 he
      subst e
      rintro y ⟨e1, e2⟩
      rw [e1]; exact h
    · rintro y ⟨e1, e2⟩
      rw [e1]; exact h
  · exact h.elim
noncomputable def SP_copiedS : List AV → List Blk → AK → Prop := (specV [.sl NodeT] (frameS copiedSS))
theorem SPok_copiedS : SpecOK Try.prog 38 SP_copiedS := (specV_ok (frame_ok copiedS_ok))
noncomputable def specs_copiedS : Specs := (38, SP_copiedS) :: []
theorem specsOK_copiedS : SpecsOK Try.prog specs_copiedS := specsOK_cons SPok_copiedS specsOK_nil
noncomputable def fns_make_38 : Fns := (38, Try.f38, [(3, S_copiedL)]) :: fns
theorem fn_make_38 : FnOK Try.prog 38 Try.f38 [(3, S_copiedL)] := fnOK_loops Try.func38 (fun vs w => Try.call38 vs w) (by kernel_rfl) fun k S h => by
  simp only [List.mem_cons, Prod.mk.injEq, List.not_mem_nil, or_false] at h
  obtain ⟨rfl, rfl⟩ := h
  exact summ_copiedL
theorem fns_make_38OK : FnsOK Try.prog fns_make_38 := fnsOK_cons fn_make_38 fnsOK
noncomputable def fns_make : Fns := (19, Try.f19, [(4, S_makeL)]) :: fns_make_38
theorem fn_make : FnOK Try.prog 19 Try.f19 [(4, S_makeL)] := fnOK_loops Try.func19 (fun vs w => Try.call19 vs w) (by kernel_rfl) fun k S h => by
  simp only [List.mem_cons, Prod.mk.injEq, List.not_mem_nil, or_false] at h
  obtain ⟨rfl, rfl⟩ := h
  exact summ_makeL
theorem fns_makeOK : FnsOK Try.prog fns_make := fnsOK_cons fn_make fns_make_38OK
noncomputable def makeS : List AV → OV := fun args => match args with | [.agg [.int .i64 op, .int .i64 nn, .int .i64 fr, .int .i64 to, .view [] (.prod .str (.int .i64)) ts, .int .i64 num], .view [] (.list (.prod (.int .i64) (.prod (.int .i64) (.prod (.int .i64) (.prod (.int .i64) (.prod (.list (.prod .str (.int .i64))) (.int .i64))))))) l] => some ([fits ts, allFit l], .view [] NodeT (makeF op fr to ts num l)) | _ => none
theorem make_eq (op nn fr to : Int) (ts : List (den TermT)) (num : Int) (l : List (List (den NodeT))) : acall tab fs_same specs_copiedS fns_make 100 20 19 [.agg [.int .i64 op, .int .i64 nn, .int .i64 fr, .int .i64 to, .view [] TermT ts, .int .i64 num], .view [] (.list NodeT) l] [] (fun o mm _ _ => resN (.sl NodeT) mm o = .ret (.view [] NodeT (makeF op fr to ts num l))) =
  (need (fits ((op, lenI l, fr, to, ts, num) :: @List.nil (den NodeT))) (need (termsFit ((op, lenI l, fr, to, ts, num) :: @List.nil (den NodeT))) (eqD l l (eqI (lenI
    l) (lenI l) (eqI 0 0 (eqD ((op, lenI l, fr, to, ts, num) :: @List.nil (den NodeT)) ((op, lenI l, fr, to, ts, num) :: @List.nil (den NodeT)) (((0 : Int) = 0 ∧ lenI
    l = lenI l ∧ allFit l ∧ (1 : Int) = 1) ∧ ((∀ (y : X_makeL), (y.2.1 = l ∧ y.2.2.1 = lenI l) ∧ y.1 = catM ((op, lenI l, fr, to, ts, num) :: @List.nil (den NodeT))
    y.2.1 → AOut.ret (AV.view (@List.nil Nat) NodeT y.1) = AOut.ret (AV.view (@List.nil Nat) NodeT (makeF op fr to ts num l))) ∧ True) ∧ ∀ (y : X_makeL), (y.2.1 = l
    ∧ y.2.2.1 = lenI l) ∧ False → AOut.ret AV.bad = AOut.ret (AV.view (@List.nil Nat) NodeT (makeF op fr to ts num l))))))))) := by kernel_rfl
theorem make_ok : SpecOK Try.prog 19 (fspecS (pureN [.ag [.any, .any, .any, .any, .sl TermT, .any], .sl (.list NodeT)] makeS)) := pureN_ok (mkCall fsOK_same specsOK_copiedS fns_makeOK) (.sl NodeT) (fun vs w => Try.call19 vs w) fun args ps v h hp hw => by
  unfold makeS at h
  split at h
  · cases h
    rename_i op nn fr to ts num l
    rw [make_eq]
    refine ⟨?_⟩
    simp only [allP_cons, allP_nil, and_true] at hp
    simp only [wfAL, wfA, wfS, wfM, wfB, and_true, true_and, wfT_int, wfT_str, wfT_bool, wfT_prod] at hw
    obtain ⟨h1, h2⟩ := hp
    have h3 : fits ([(op, lenI l, fr, to, ts, num)] : List (den NodeT)) := by unfold fits lenI; simp
    have h4 : termsFit ([(op, lenI l, fr, to, ts, num)] : List (den NodeT)) := by
      intro x hx
      rw [List.mem_singleton] at hx
      rw [hx]; exact h1
    simp only [simpsL, implies_true, forall_const, if_true, if_false, reduceCtorEq]
    refine ⟨h3, h4, h2, ?_⟩
    rintro y ⟨⟨e1, _⟩, e⟩
    rw [e, e1]; rfl
  · cases h
noncomputable def FF_make : FSpec := pureN [.ag [.any, .any, .any, .any, .sl TermT, .any], .sl (.list NodeT)] makeS
theorem FFok_make : SpecOK Try.prog 19 (fspecS FF_make) := make_ok
noncomputable def fs_make : FS := (19, FF_make) :: fs_parts
theorem fsOK_make : FSOK Try.prog fs_make := fsOK_cons FFok_make fsOK_parts
end Go.Proofs.Ytmdjpohmbkodeaa.Sx

