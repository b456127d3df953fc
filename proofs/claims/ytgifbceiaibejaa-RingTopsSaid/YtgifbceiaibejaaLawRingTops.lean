/- Ytgifbceiaibejaa: the law RingTops returns true for every input, and its arguments read as they did: no condition. -/
import Derived.Test.YtgifbceiaibejaaRows
import Derived.Test.YtgifbceiaibejaaSxV
import Derived.Test.YtgifbceiaibejaaSmRingV
import Derived.Test.YtgifbceiaibejaaPlRingU
import Derived.HandedShaped
namespace Go.Proofs.Ytgifbceiaibejaa
open Go.ChangeShapes Go.WideShapes Go.ChangeAt Go.RowKit Sx
set_option maxRecDepth 100000
set_option linter.unusedVariables false
set_option linter.unusedSimpArgs false
set_option maxHeartbeats 4000000

def ago (xs : List Int) (p j : Int) : Int := nth (.int .i64) xs ((p - 1 - j + 2 * lenI xs) % lenI xs)
def topsOK (l xs : List Int) (p n m w : Int) : Prop := ringOK xs p n ∧ n ≤ lenI l ∧ lenI l ≤ 300 ∧ (∀ j, 0 ≤ j → j < n → ago xs p j = nth (.int .i64) l (lenI l - 1 - j) ∧ ago xs p j ≤ m ∧ w ≤ ago xs p j) ∧ (∃ j, 0 ≤ j ∧ j < n ∧ ago xs p j = m) ∧ (∃ j, 0 ≤ j ∧ j < n ∧ ago xs p j = w)
abbrev X_tops := List (den (.int .i64)) × Int × Int × Bool × Bool × Int × Int × Int × Int × List (den (.int .i64)) × Int × Int × List (den EntT) × Int × Int × List (den EntT) × Bool
def sh_tops : X_tops → St := fun x => match x with | (l, m, w, so, le, d, pu, p, n, xs, a1, n1, c1, a2, n2, c2, r) => ⟨setL (rep .bad 193) [(1, .view [] (.int .i64) l), (11, .int .i64 m), (15, .int .i64 w), (17, .bool so), (18, .bool le), (19, .int .i64 d), (7, .ptr 6 0)], [.row 3 (.int .i64) xs [], .var [.own 0, .int .i64 p, .int .i64 n], .row 66 EntT c1 [], .var [.own 2, .int .i64 a1, .int .i64 n1, .bool true], .row 66 EntT c2 [], .var [.own 4, .int .i64 a2, .int .i64 n2, .bool false], .var [.ptr 1 0, .ptr 3 0, .ptr 5 0, .int .i64 pu]], [0, 1, 2, 3, 4, 5, 6, 7, 8, 9, 10, 11, 12, 13, 14], [0, 1, 2, 3, 4, 5, 6, 7, 8, 9, 10, 11, 12, 13, 14]⟩
def shr_tops : X_tops → St := fun x => match x with | (l, m, w, so, le, d, pu, p, n, xs, a1, n1, c1, a2, n2, c2, r) => ⟨setL (rep .bad 193) [(1, .view [] (.int .i64) l), (11, .int .i64 m), (15, .int .i64 w), (17, .bool so), (18, .bool le), (19, .int .i64 d), (6, .bool r), (7, .ptr 6 0)], [.row 3 (.int .i64) xs [], .var [.own 0, .int .i64 p, .int .i64 n], .row 66 EntT c1 [], .var [.own 2, .int .i64 a1, .int .i64 n1, .bool true], .row 66 EntT c2 [], .var [.own 4, .int .i64 a2, .int .i64 n2, .bool false], .var [.ptr 1 0, .ptr 3 0, .ptr 5 0, .int .i64 pu]], [0, 1, 2, 3, 4, 5, 6, 7, 8, 9, 10, 11, 12, 13, 14], [0, 1, 2, 3, 4, 5, 6, 7, 8, 9, 10, 11, 12, 13, 14]⟩
def sx_tops : AExit → X_tops → St := fun e => match e with | .ret => shr_tops | _ => sh_tops
def nx_tops (σ : St) : X_tops := (gV (.int .i64) σ 1, gI σ 11, gI σ 15, gB σ 17, gB σ 18, gI σ 19, cI σ 6 3, cI σ 1 1, cI σ 1 2, rV (.int .i64) σ 0, cI σ 3 1, cI σ 3 2, rV EntT σ 2, cI σ 5 1, cI σ 5 2, rV EntT σ 4, gB σ 6)
def Pre_tops : X_tops → Prop := fun x => match x with | (l, m, w, so, le, d, pu, p, n, xs, a1, n1, c1, a2, n2, c2, r) => d = 0 ∧ so = false ∧ le = false ∧ topsOK l xs p n m w
def E0_tops : X_tops → X_tops → Prop := fun x y => match x, y with | (l0, m0, w0, so0, le0, d0, pu0, p0, n0, xs0, a10, n10, c10, a20, n20, c20, r0), (l, m, w, so, le, d, pu, p, n, xs, a1, n1, c1, a2, n2, c2, r) => (l = l0 ∧ m = m0 ∧ w = w0 ∧ pu = pu0 ∧ p = p0 ∧ n = n0 ∧ xs = xs0 ∧ a1 = a10 ∧ n1 = n10 ∧ c1 = c10 ∧ a2 = a20 ∧ n2 = n20 ∧ c2 = c20) ∧ (so = true ∧ le = true)
def R_tops : X_tops → X_tops → Prop := fun x y => match x, y with | (l0, m0, w0, so0, le0, d0, pu0, p0, n0, xs0, a10, n10, c10, a20, n20, c20, r0), (l, m, w, so, le, d, pu, p, n, xs, a1, n1, c1, a2, n2, c2, r) => (l = l0 ∧ m = m0 ∧ w = w0 ∧ pu = pu0 ∧ p = p0 ∧ n = n0 ∧ xs = xs0 ∧ a1 = a10 ∧ n1 = n10 ∧ c1 = c10 ∧ a2 = a20 ∧ n2 = n20 ∧ c2 = c20) ∧ (False)
def D_tops : X_tops → LEnds X_tops := fun x => ⟨[(0, E0_tops x)], R_tops x⟩
noncomputable def S_tops : Summ := summN sh_tops sx_tops nx_tops Pre_tops D_tops
def Inv_tops : X_tops → X_tops → Prop := fun x y => match x, y with | (l0, m0, w0, so0, le0, d0, pu0, p0, n0, xs0, a10, n10, c10, a20, n20, c20, r0), (l, m, w, so, le, d, pu, p, n, xs, a1, n1, c1, a2, n2, c2, r) => (l = l0 ∧ m = m0 ∧ w = w0 ∧ pu = pu0 ∧ p = p0 ∧ n = n0 ∧ xs = xs0 ∧ a1 = a10 ∧ n1 = n10 ∧ c1 = c10 ∧ a2 = a20 ∧ n2 = n20 ∧ c2 = c20) ∧ ((0 ≤ d ∧ d ≤ n) ∧ (so = true ∨ ∀ j, 0 ≤ j → j < d → ago xs p j ≠ m) ∧ (le = true ∨ ∀ j, 0 ≤ j → j < d → ago xs p j ≠ w))
def M_tops : X_tops → X_tops → Nat := fun x y => match x, y with | (l0, m0, w0, so0, le0, d0, pu0, p0, n0, xs0, a10, n10, c10, a20, n20, c20, r0), (l, m, w, so, le, d, pu, p, n, xs, a1, n1, c1, a2, n2, c2, r) => (n - d).toNat
theorem body_tops (Inv : X_tops → Prop) (meas : X_tops → Nat) (nn : Nat) (EE0 RR : X_tops → Prop) (l : List (den (.int .i64))) (m : Int) (w : Int) (so : Bool) (le : Bool) (d : Int) (pu : Int) (p : Int) (n : Int) (xs : List (den (.int .i64))) (a1 : Int) (n1 : Int) (c1 : List (den EntT)) (a2 : Int) (n2 : Int) (c2 : List (den EntT)) (r : Bool) : awp tab fs_rnow (acall tab fs_rnow specs_newtop fns 100 20) [] 100 (loopAt Try.f4 21) (bodyN sh_tops sx_tops nx_tops Inv meas nn ⟨[(0, EE0)], RR⟩) (sh_tops (l, m, w, so, le, d, pu, p, n, xs, a1, n1, c1, a2, n2, c2, r)) =
  (need (ringOK xs p n) (ifB (ltB d n) (ifB (selB (selB (eqB (lenI xs) 0) true (ltB d 0)) true (leB n d)) (need True (eqD l l (eqL false false (eqI m m (eqI w w (eqL
    so so (eqL le le (eqI d d (eqD xs xs (eqI p p (eqI n n (eqD c1 c1 (eqI a1 a1 (eqI n1 n1 (eqL true true (eqD c2 c2 (eqI a2 a2 (eqI n2 n2 (eqL false false (eqI pu
    pu (RR (l, m, w, so, le, d, pu, p, n, xs, a1, n1, c1, a2, n2, c2, false)))))))))))))))))))))) (need (nzI (lenI xs)) (need (inI (remI (addW IntKind.i64 (subW IntKind.i64
    (subW IntKind.i64 p 1) d) (mulW IntKind.i64 2 (lenI xs))) (lenI xs)) (lenI xs)) (need (inI (remI (addW IntKind.i64 (subW IntKind.i64 (subW IntKind.i64 p 1) d) (mulW
    IntKind.i64 2 (lenI xs))) (lenI xs)) (lenI xs)) (need (impB (notB (selB (ltB m (nth (Ty.int IntKind.i64) xs (remI (addW IntKind.i64 (subW IntKind.i64 (subW IntKind.i64
    p 1) d) (mulW IntKind.i64 2 (lenI xs))) (lenI xs)))) true (ltB (nth (Ty.int IntKind.i64) xs (remI (addW IntKind.i64 (subW IntKind.i64 (subW IntKind.i64 p 1) d) (mulW
    IntKind.i64 2 (lenI xs))) (lenI xs))) w))) (inI (subW IntKind.i64 (subW IntKind.i64 (lenI l) 1) d) (lenI l))) (ifB (selB (selB (ltB m (nth (Ty.int IntKind.i64) xs
    (remI (addW IntKind.i64 (subW IntKind.i64 (subW IntKind.i64 p 1) d) (mulW IntKind.i64 2 (lenI xs))) (lenI xs)))) true (ltB (nth (Ty.int IntKind.i64) xs (remI (addW
    IntKind.i64 (subW IntKind.i64 (subW IntKind.i64 p 1) d) (mulW IntKind.i64 2 (lenI xs))) (lenI xs))) w)) true (notB (eqB (nth (Ty.int IntKind.i64) xs (remI (addW
    IntKind.i64 (subW IntKind.i64 (subW IntKind.i64 p 1) d) (mulW IntKind.i64 2 (lenI xs))) (lenI xs))) (nth (Ty.int IntKind.i64) l (subW IntKind.i64 (subW IntKind.i64
    (lenI l) 1) d))))) (eqD l l (eqL false false (eqI m m (eqI w w (eqL so so (eqL le le (eqI d d (eqD xs xs (eqI p p (eqI n n (eqD c1 c1 (eqI a1 a1 (eqI n1 n1 (eqL
    true true (eqD c2 c2 (eqI a2 a2 (eqI n2 n2 (eqL false false (eqI pu pu (RR (l, m, w, so, le, d, pu, p, n, xs, a1, n1, c1, a2, n2, c2, false)))))))))))))))))))))
    (eqD l l (eqI m m (eqI w w (eqL (selB so true (eqB (nth (Ty.int IntKind.i64) xs (remI (addW IntKind.i64 (subW IntKind.i64 (subW IntKind.i64 p 1) d) (mulW IntKind.i64
    2 (lenI xs))) (lenI xs))) m)) (selB so true (eqB (nth (Ty.int IntKind.i64) xs (remI (addW IntKind.i64 (subW IntKind.i64 (subW IntKind.i64 p 1) d) (mulW IntKind.i64
    2 (lenI xs))) (lenI xs))) m)) (eqL (selB le true (eqB (nth (Ty.int IntKind.i64) xs (remI (addW IntKind.i64 (subW IntKind.i64 (subW IntKind.i64 p 1) d) (mulW IntKind.i64
    2 (lenI xs))) (lenI xs))) w)) (selB le true (eqB (nth (Ty.int IntKind.i64) xs (remI (addW IntKind.i64 (subW IntKind.i64 (subW IntKind.i64 p 1) d) (mulW IntKind.i64
    2 (lenI xs))) (lenI xs))) w)) (eqI (addW IntKind.i64 d 1) (addW IntKind.i64 d 1) (eqD xs xs (eqI p p (eqI n n (eqD c1 c1 (eqI a1 a1 (eqI n1 n1 (eqL true true (eqD
    c2 c2 (eqI a2 a2 (eqI n2 n2 (eqL false false (eqI pu pu (Inv (l, m, w, selB so true (eqB (nth (Ty.int IntKind.i64) xs (remI (addW IntKind.i64 (subW IntKind.i64 (subW
    IntKind.i64 p 1) d) (mulW IntKind.i64 2 (lenI xs))) (lenI xs))) m), selB le true (eqB (nth (Ty.int IntKind.i64) xs (remI (addW IntKind.i64 (subW IntKind.i64 (subW
    IntKind.i64 p 1) d) (mulW IntKind.i64 2 (lenI xs))) (lenI xs))) w), addW IntKind.i64 d 1, pu, p, n, xs, a1, n1, c1, a2, n2, c2, false) ∧ meas (l, m, w, selB so true
    (eqB (nth (Ty.int IntKind.i64) xs (remI (addW IntKind.i64 (subW IntKind.i64 (subW IntKind.i64 p 1) d) (mulW IntKind.i64 2 (lenI xs))) (lenI xs))) m), selB le true
    (eqB (nth (Ty.int IntKind.i64) xs (remI (addW IntKind.i64 (subW IntKind.i64 (subW IntKind.i64 p 1) d) (mulW IntKind.i64 2 (lenI xs))) (lenI xs))) w), addW IntKind.i64
    d 1, pu, p, n, xs, a1, n1, c1, a2, n2, c2, false) < nn))))))))))))))))))))))))) (eqD l l (eqI m m (eqI w w (eqL so so (eqL le le (eqI d d (eqD xs xs (eqI p p (eqI
    n n (eqD c1 c1 (eqI a1 a1 (eqI n1 n1 (eqL true true (eqD c2 c2 (eqI a2 a2 (eqI n2 n2 (eqL false false (eqI pu pu (EE0 (l, m, w, so, le, d, pu, p, n, xs, a1, n1,
    c1, a2, n2, c2, false)))))))))))))))))))))) := by kernel_rfl
theorem body_tops_ok : ∀ x y, Pre_tops x → Inv_tops x y → wfS (sh_tops y) → Hd (awp tab fs_rnow (acall tab fs_rnow specs_newtop fns 100 20) [] 100 (loopAt Try.f4 21) (bodyN sh_tops sx_tops nx_tops (Inv_tops x) (M_tops x) (M_tops x y) (D_tops x)) (sh_tops y)) := by
  rintro ⟨l0, m0, w0, so0, le0, d0, pu0, p0, n0, xs0, a10, n10, c10, a20, n20, c20, r0⟩ ⟨l, m, w, so, le, d, pu, p, n, xs, a1, n1, c1, a2, n2, c2, r⟩ hp hI hw
  obtain ⟨⟨rfl, rfl, rfl, rfl, rfl, rfl, rfl, rfl, rfl, rfl, rfl, rfl, rfl⟩, hI⟩ := hI
  have hw_l := wfL_view hw 1 rfl
  have hw_m := wfL_int hw 11 rfl
  have hw_w := wfL_int hw 15 rfl
  have hw_d := wfL_int hw 19 rfl
  have hw_pu := wfC_int hw 6 3 rfl
  have hw_p := wfC_int hw 1 1 rfl
  have hw_n := wfC_int hw 1 2 rfl
  have hw_xs := wfR_row hw 0 rfl
  have hw_a1 := wfC_int hw 3 1 rfl
  have hw_n1 := wfC_int hw 3 2 rfl
  have hw_c1 := wfR_row hw 2 rfl
  have hw_a2 := wfC_int hw 5 1 rfl
  have hw_n2 := wfC_int hw 5 2 rfl
  have hw_c2 := wfR_row hw 4 rfl
  have hp : d0 = 0 ∧ so0 = false ∧ le0 = false ∧ topsOK l xs p n m w := hp
  unfold D_tops
  rw [body_tops]
  refine ⟨?_⟩
  have hInv : ∀ (so : Bool) (le : Bool) (d : Int) (r : Bool), ((0 ≤ d ∧ d ≤ n) ∧ (so = true ∨ ∀ j, 0 ≤ j → j < d → ago xs p j ≠ m) ∧ (le = true ∨ ∀ j, 0 ≤ j → j < d → ago xs p j ≠ w)) → Inv_tops (l, m, w, so0, le0, d0, pu, p, n, xs, a1, n1, c1, a2, n2, c2, r0) (l, m, w, so, le, d, pu, p, n, xs, a1, n1, c1, a2, n2, c2, r) := fun _ _ _ _ h => ⟨⟨rfl, rfl, rfl, rfl, rfl, rfl, rfl, rfl, rfl, rfl, rfl, rfl, rfl⟩, h⟩
  generalize hIe : Inv_tops (l, m, w, so0, le0, d0, pu, p, n, xs, a1, n1, c1, a2, n2, c2, r0) = Inv at hInv ⊢
  have hMe : ∀ (so : Bool) (le : Bool) (d : Int) (r : Bool), M_tops (l, m, w, so0, le0, d0, pu, p, n, xs, a1, n1, c1, a2, n2, c2, r0) (l, m, w, so, le, d, pu, p, n, xs, a1, n1, c1, a2, n2, c2, r) = (n - d).toNat := fun _ _ _ _ => rfl
  generalize M_tops (l, m, w, so0, le0, d0, pu, p, n, xs, a1, n1, c1, a2, n2, c2, r0) = Me at hMe ⊢
  have hE0 : ∀ (so : Bool) (le : Bool) (d : Int) (r : Bool), (so = true ∧ le = true) → E0_tops (l, m, w, so0, le0, d0, pu, p, n, xs, a1, n1, c1, a2, n2, c2, r0) (l, m, w, so, le, d, pu, p, n, xs, a1, n1, c1, a2, n2, c2, r) := fun _ _ _ _ h => ⟨⟨rfl, rfl, rfl, rfl, rfl, rfl, rfl, rfl, rfl, rfl, rfl, rfl, rfl⟩, h⟩
  generalize E0_tops (l, m, w, so0, le0, d0, pu, p, n, xs, a1, n1, c1, a2, n2, c2, r0) = EE0 at hE0 ⊢
  have hR : ∀ (so : Bool) (le : Bool) (d : Int) (r : Bool), (False) → R_tops (l, m, w, so0, le0, d0, pu, p, n, xs, a1, n1, c1, a2, n2, c2, r0) (l, m, w, so, le, d, pu, p, n, xs, a1, n1, c1, a2, n2, c2, r) := fun _ _ _ _ h => ⟨⟨rfl, rfl, rfl, rfl, rfl, rfl, rfl, rfl, rfl, rfl, rfl, rfl, rfl⟩, h⟩
  generalize R_tops (l, m, w, so0, le0, d0, pu, p, n, xs, a1, n1, c1, a2, n2, c2, r0) = RR at hR ⊢
  obtain ⟨hi, hs, hl⟩ := hI
  obtain ⟨p1, p2, p3, p4⟩ := hp
  have p4' := p4
  unfold topsOK at p4'
  obtain ⟨hR0, q1, q2, q3, q4, q5⟩ := p4'
  have hO := hR0
  unfold ringOK at hO
  obtain ⟨o1, o2, o3, o4, o5⟩ := hO
  have ei : addW .i64 d 1 = d + 1 := addW64 (by omega) (by omega)
  by_cases hk : d < n
  · rw [ltB_t.2 hk]
    have e1 : subW .i64 p 1 = p - 1 := subW64 (by omega) (by omega)
    have e2 : subW .i64 (p - 1) d = p - 1 - d := subW64 (by omega) (by omega)
    have e3 : mulW .i64 2 (lenI xs) = 2 * lenI xs := mulW64 (by omega) (by omega)
    have e4 : addW .i64 (p - 1 - d) (2 * lenI xs) = p - 1 - d + 2 * lenI xs := addW64 (by omega) (by omega)
    have e5 : subW .i64 (lenI l) 1 = lenI l - 1 := subW64 (by omega) (by omega)
    have e6 : subW .i64 (lenI l - 1) d = lenI l - 1 - d := subW64 (by omega) (by omega)
    have e7 : remI (p - 1 - d + 2 * lenI xs) (lenI xs) = (p - 1 - d + 2 * lenI xs) % lenI xs := remI_nn (by omega)
    have h0 : ¬ lenI xs = 0 := by omega
    have h1 : ¬ d < 0 := by omega
    have h2 : ¬ n ≤ d := by omega
    have hr0 : 0 ≤ (p - 1 - d + 2 * lenI xs) % lenI xs := Int.emod_nonneg _ (by omega)
    have hr1 : (p - 1 - d + 2 * lenI xs) % lenI xs < lenI xs := Int.emod_lt_of_pos _ (by omega)
    obtain ⟨g1, g2, g3⟩ := q3 d hi.1 hk
    have hv : nth (.int .i64) xs ((p - 1 - d + 2 * lenI xs) % lenI xs) = ago xs p d := rfl
    simp only [e1, e2, e3, e4, e5, e6, e7, ei, hv, ← g1, eqB_t.2 rfl]
    rw [ltB_f.2 g2, ltB_f.2 g3]
    have ho : (orB so (eqB (ago xs p d) m) = true ∨ ∀ j, 0 ≤ j → j < d + 1 → ago xs p j ≠ m) := by
      rcases hs with rfl | hs
      · exact .inl rfl
      · by_cases e : ago xs p d = m
        · rw [eqB_t.2 e]; left; cases so <;> rfl
        · right; intro j h0 h1
          by_cases hj : j = d
          · subst hj; exact e
          · exact hs j h0 (by omega)
    have hw' : (orB le (eqB (ago xs p d) w) = true ∨ ∀ j, 0 ≤ j → j < d + 1 → ago xs p j ≠ w) := by
      rcases hl with rfl | hl
      · exact .inl rfl
      · by_cases e : ago xs p d = w
        · rw [eqB_t.2 e]; left; cases le <;> rfl
        · right; intro j h0 h1
          by_cases hj : j = d
          · subst hj; exact e
          · exact hl j h0 (by omega)
    simp only [need_def, appL_def, ifB_def, impB_def, selB_f, selB_t, selI_def, selX_def, notB_def, andB_def, orB_def, beqB_def, ltB_def, leB_def, eqB_def, seqB_def, eqI_def, eqL_def, eqS_def, eqD_def, eqT_def, imp_def, inI_def, nzI_def, geZ_def, ret_bool, ret_int, Bool.and_eq_true, Bool.or_eq_true, Bool.not_eq_true', Bool.not_eq_false', decide_eq_true_eq, decide_eq_false_iff_not, Bool.and_eq_false_iff, Bool.or_eq_false_iff, Int.not_lt, Int.not_le, true_and, and_true, implies_true, Bool.false_eq_true, Bool.true_eq_false, false_implies, forall_const, reduceCtorEq, if_true, if_false, true_implies, false_and, and_false, false_or, or_false, true_or, or_true, hMe, h0, h1, h2, hR0]
    repeat' (first | with_reducible rfl | assumption | omega | trivial | (exact hInv _ _ _ _ ⟨by omega, ho, hw'⟩) | refine ⟨?_, ?_⟩ | intro _)
  · rw [ltB_f.2 (Int.not_lt.1 hk)]
    have hd : d = n := by omega
    have hso : so = true := by
      rcases hs with h | h
      · exact h
      · obtain ⟨j, j0, j1, j2⟩ := q4; exact absurd j2 (h j j0 (by omega))
    have hle : le = true := by
      rcases hl with h | h
      · exact h
      · obtain ⟨j, j0, j1, j2⟩ := q5; exact absurd j2 (h j j0 (by omega))
    simp only [need_def, appL_def, ifB_def, impB_def, selB_f, selB_t, selI_def, selX_def, notB_def, andB_def, orB_def, beqB_def, ltB_def, leB_def, eqB_def, seqB_def, eqI_def, eqL_def, eqS_def, eqD_def, eqT_def, imp_def, inI_def, nzI_def, geZ_def, ret_bool, ret_int, Bool.and_eq_true, Bool.or_eq_true, Bool.not_eq_true', Bool.not_eq_false', decide_eq_true_eq, decide_eq_false_iff_not, Bool.and_eq_false_iff, Bool.or_eq_false_iff, Int.not_lt, Int.not_le, true_and, and_true, implies_true, Bool.false_eq_true, Bool.true_eq_false, false_implies, forall_const, reduceCtorEq, if_true, if_false, true_implies, false_and, and_false, false_or, or_false, true_or, or_true, hR0]
    repeat' (first | with_reducible rfl | assumption | omega | trivial | (exact hE0 _ _ _ _ ⟨hso, hle⟩) | refine ⟨?_, ?_⟩ | intro _)
theorem summ_tops : SummOK Try.prog (loopAt Try.f4 21) S_tops :=
  summN_ok (L := []) (fuel := 100) tabOK fsOK_rnow (mkCall fsOK_rnow specsOK_newtop fnsOK) (fun C => mkDraw fsOK_rnow (mkCall fsOK_rnow specsOK_newtop fnsOK) C) loopsOK_nil Inv_tops M_tops
    (fun x hp hw => by
      obtain ⟨l, m, w, so, le, d, pu, p, n, xs, a1, n1, c1, a2, n2, c2, r⟩ := x
      have hp : d = 0 ∧ so = false ∧ le = false ∧ topsOK l xs p n m w := hp
      have hw_l := wfL_view hw 1 rfl
      have hw_m := wfL_int hw 11 rfl
      have hw_w := wfL_int hw 15 rfl
      have hw_d := wfL_int hw 19 rfl
      have hw_pu := wfC_int hw 6 3 rfl
      have hw_p := wfC_int hw 1 1 rfl
      have hw_n := wfC_int hw 1 2 rfl
      have hw_xs := wfR_row hw 0 rfl
      have hw_a1 := wfC_int hw 3 1 rfl
      have hw_n1 := wfC_int hw 3 2 rfl
      have hw_c1 := wfR_row hw 2 rfl
      have hw_a2 := wfC_int hw 5 1 rfl
      have hw_n2 := wfC_int hw 5 2 rfl
      have hw_c2 := wfR_row hw 4 rfl
      obtain ⟨rfl, rfl, rfl, h1⟩ := hp
      have h2 := h1
      unfold topsOK ringOK at h2
      exact ⟨⟨rfl, rfl, rfl, rfl, rfl, rfl, rfl, rfl, rfl, rfl, rfl, rfl, rfl⟩, by omega, .inr (fun j h0 h1 => by omega), .inr (fun j h0 h1 => by omega)⟩)
    (body_tops_ok)
noncomputable def fns_LRingTops : Fns := (4, Try.f4, [(21, S_tops)]) :: fns
theorem fn_LRingTops : FnOK Try.prog 4 Try.f4 [(21, S_tops)] := fnOK_loops Try.func4 (fun vs w => Try.call4 vs w) (by kernel_rfl) fun k S h => by
  simp only [List.mem_cons, Prod.mk.injEq, List.not_mem_nil, or_false] at h
  obtain ⟨rfl, rfl⟩ := h
  exact summ_tops
theorem fns_LRingTopsOK : FnsOK Try.prog fns_LRingTops := fnsOK_cons fn_LRingTops fnsOK
theorem RingTops_eq (n : Int) (l : List (den (.int .i64))) (k : Int) : acall tab fs_rnow specs_newtop fns_LRingTops 100 20 4 [.int .i64 n, .view [] (.int .i64) l, .int .i64 k] [] (fun o _ _ _ => o = .ret (.bool true)) =
  (ifB (selB (selB (selB (selB (selB (ltB n 1) true (ltB 200 n)) true (ltB 300 (lenI l))) true (eqB (lenI l) 0)) true (ltB k 0)) true (ltB (lenI l) k)) (AOut.ret (AV.bool
    true) = AOut.ret (AV.bool true)) (need (newOK n) (need (newOK n) (need (topOK 0 0 0 (repI n (0 : Int)) 0 0 (repI n ((0 : Int), (0 : Int))) 0 0 (repI n ((0 : Int),
    (0 : Int)))) (need (roomT 0 l) (∀ (pu' p' n' a1' n1' a2' n2' : Int) (xs' : List Int) (c1' c2' : List (den EntT)), topR l 0 0 0 (repI n (0 : Int)) 0 0 (repI n ((0
    : Int), (0 : Int))) 0 0 (repI n ((0 : Int), (0 : Int))) pu' p' n' xs' a1' n1' c1' a2' n2' c2' → need (leI 0 0) (need (leI 0 k) (need (leI k (lenI l)) (need (topOK
    0 0 0 (repI n (0 : Int)) 0 0 (repI n ((0 : Int), (0 : Int))) 0 0 (repI n ((0 : Int), (0 : Int)))) (need (roomT 0 (subL l 0 k)) (∀ (pu'_1 p'_1 n'_1 a1'_1 n1'_1 a2'_1
    n2'_1 : Int) (xs'_1 : List Int) (c1'_1 c2'_1 : List (den EntT)), topR (subL l 0 k) 0 0 0 (repI n (0 : Int)) 0 0 (repI n ((0 : Int), (0 : Int))) 0 0 (repI n ((0 :
    Int), (0 : Int))) pu'_1 p'_1 n'_1 xs'_1 a1'_1 n1'_1 c1'_1 a2'_1 n2'_1 c2'_1 → need (leI 0 k) (need (leI k (lenI l)) (need (leI (lenI l) (lenI l)) (need (topOK pu'_1
    p'_1 n'_1 xs'_1 a1'_1 n1'_1 c1'_1 a2'_1 n2'_1 c2'_1) (need (roomT pu'_1 (subL l k (lenI l))) (∀ (pu'_2 p'_2 n'_2 a1'_2 n1'_2 a2'_2 n2'_2 : Int) (xs'_2 : List Int)
    (c1'_2 c2'_2 : List (den EntT)), topR (subL l k (lenI l)) pu'_1 p'_1 n'_1 xs'_1 a1'_1 n1'_1 c1'_1 a2'_1 n2'_1 c2'_1 pu'_2 p'_2 n'_2 xs'_2 a1'_2 n1'_2 c1'_2 a2'_2
    n2'_2 c2'_2 → need (topOK pu' p' n' xs' a1' n1' c1' a2' n2' c2') (need (topOK pu'_2 p'_2 n'_2 xs'_2 a1'_2 n1'_2 c1'_2 a2'_2 n2'_2 c2'_2) (need (topOK pu' p' n' xs'
    (qbA c1' a1' n1' (pu' - n')) (qbN c1' a1' n1' (pu' - n')) c1' a2' n2' c2') (need (impB (notB (selB (selB (selB (notB (eqB (topE (qbB c1' a1' n1' (pu' - n'))) 0))
    true (notB (eqB (topE (qbB c1'_2 a1'_2 n1'_2 (pu'_2 - n'_2))) 0))) true (notB (eqB (topE (qbB c2' a2' n2' (pu' - n'))) 0))) true (notB (eqB (qbV c1' a1' n1' (pu'
    - n')) (qbV c1'_2 a1'_2 n1'_2 (pu'_2 - n'_2)))))) (ringOK xs' p' n')) (ifB (selB (selB (selB (selB (notB (eqB (topE (qbB c1' a1' n1' (pu' - n'))) 0)) true (notB
    (eqB (topE (qbB c1'_2 a1'_2 n1'_2 (pu'_2 - n'_2))) 0))) true (notB (eqB (topE (qbB c2' a2' n2' (pu' - n'))) 0))) true (notB (eqB (qbV c1' a1' n1' (pu' - n')) (qbV
    c1'_2 a1'_2 n1'_2 (pu'_2 - n'_2))))) true (notB (eqB n' (selI (ltB (lenI l) n) (lenI l) n)))) (AOut.ret (AV.bool false) = AOut.ret (AV.bool true)) (eqD l l (eqI
    (qbV c1' a1' n1' (pu' - n')) (qbV c1' a1' n1' (pu' - n')) (eqI (qbV c2' a2' n2' (pu' - n')) (qbV c2' a2' n2' (pu' - n')) (eqL false false (eqL false false (eqI 0
    0 (eqD xs' xs' (eqI p' p' (eqI n' n' (eqD c1' c1' (eqI (qbA c1' a1' n1' (pu' - n')) (qbA c1' a1' n1' (pu' - n')) (eqI (qbN c1' a1' n1' (pu' - n')) (qbN c1' a1' n1'
    (pu' - n')) (eqL true true (eqD c2' c2' (eqI (qbA c2' a2' n2' (pu' - n')) (qbA c2' a2' n2' (pu' - n')) (eqI (qbN c2' a2' n2' (pu' - n')) (qbN c2' a2' n2' (pu' -
    n')) (eqL false false (eqI pu' pu' (((0 : Int) = 0 ∧ false = false ∧ false = false ∧ topsOK l xs' p' n' (qbV c1' a1' n1' (pu' - n')) (qbV c2' a2' n2' (pu' - n')))
    ∧ ((∀ (y : X_tops), (y.1 = l ∧ y.2.1 = qbV c1' a1' n1' (pu' - n') ∧ y.2.2.1 = qbV c2' a2' n2' (pu' - n') ∧ y.2.2.2.2.2.2.1 = pu' ∧ y.2.2.2.2.2.2.2.1 = p' ∧ y.2.2.2.2.2.2.2.2.1
    = n' ∧ y.2.2.2.2.2.2.2.2.2.1 = xs' ∧ y.2.2.2.2.2.2.2.2.2.2.1 = qbA c1' a1' n1' (pu' - n') ∧ y.2.2.2.2.2.2.2.2.2.2.2.1 = qbN c1' a1' n1' (pu' - n') ∧ y.2.2.2.2.2.2.2.2.2.2.2.2.1
    = c1' ∧ y.2.2.2.2.2.2.2.2.2.2.2.2.2.1 = qbA c2' a2' n2' (pu' - n') ∧ y.2.2.2.2.2.2.2.2.2.2.2.2.2.2.1 = qbN c2' a2' n2' (pu' - n') ∧ y.2.2.2.2.2.2.2.2.2.2.2.2.2.2.2.1
    = c2') ∧ y.2.2.2.1 = true ∧ y.2.2.2.2.1 = true → AOut.ret (AV.bool (selB y.2.2.2.1 y.2.2.2.2.1 false)) = AOut.ret (AV.bool true)) ∧ True) ∧ ∀ (y : X_tops), (y.1
    = l ∧ y.2.1 = qbV c1' a1' n1' (pu' - n') ∧ y.2.2.1 = qbV c2' a2' n2' (pu' - n') ∧ y.2.2.2.2.2.2.1 = pu' ∧ y.2.2.2.2.2.2.2.1 = p' ∧ y.2.2.2.2.2.2.2.2.1 = n' ∧ y.2.2.2.2.2.2.2.2.2.1
    = xs' ∧ y.2.2.2.2.2.2.2.2.2.2.1 = qbA c1' a1' n1' (pu' - n') ∧ y.2.2.2.2.2.2.2.2.2.2.2.1 = qbN c1' a1' n1' (pu' - n') ∧ y.2.2.2.2.2.2.2.2.2.2.2.2.1 = c1' ∧ y.2.2.2.2.2.2.2.2.2.2.2.2.2.1
    = qbA c2' a2' n2' (pu' - n') ∧ y.2.2.2.2.2.2.2.2.2.2.2.2.2.2.1 = qbN c2' a2' n2' (pu' - n') ∧ y.2.2.2.2.2.2.2.2.2.2.2.2.2.2.2.1 = c2') ∧ False → AOut.ret (AV.bool
    y.2.2.2.2.2.2.2.2.2.2.2.2.2.2.2.2) = AOut.ret (AV.bool true)))))))))))))))))))))))))))))))))))))))) := by kernel_rfl
theorem RingTops_call : CallOK Try.prog (acall tab fs_rnow specs_newtop fns_LRingTops 100 20) := mkCall fsOK_rnow specsOK_newtop fns_LRingTopsOK
theorem RingTops_go (n : Int) (l : List (den (.int .i64))) (k : Int) : LawEv (acall tab fs_rnow specs_newtop fns_LRingTops 100 20) 4 [.int .i64 n, .view [] (.int .i64) l, .int .i64 k] := by
  refine ⟨?_⟩
  rw [RingTops_eq]
  rw [ifB_def]
  refine ⟨fun _ => rfl, fun hg => ?_⟩
  simp only [selB_t, ltB_def, eqB_def, Bool.or_eq_false_iff, decide_eq_false_iff_not, Int.not_lt] at hg
  obtain ⟨⟨⟨⟨⟨g1, g2⟩, g3⟩, g4⟩, g5⟩, g6⟩ := hg
  have hAB := sub_app (l := l) g5 g6
  have hll := lenI_nn l
  have lA : lenI (subL l 0 k) + lenI (subL l k (lenI l)) = lenI l := by rw [← lenI_app, hAB]
  have a0 := lenI_nn (subL l 0 k)
  have b0 := lenI_nn (subL l k (lenI l))
  have hN : newOK n := by unfold newOK; omega
  have hT0 : topOK 0 0 0 (repI n (0 : Int)) 0 0 (repI n ((0 : Int), (0 : Int))) 0 0 (repI n ((0 : Int), (0 : Int))) := (top0_inv (l := l) g1 (by omega)).ok (Int.le_refl _) (by omega)
  simp only [need_def, eqI_def, eqL_def, eqD_def, true_and]
  refine ⟨hN, hN, hT0, by unfold roomT; omega, fun pu p c a1 n1 a2 n2 xs c1 c2 hA => ⟨Int.le_refl _, g5, g6, hT0, by unfold roomT; omega, fun pu1 p1 k1 a11 n11 a21 n21 xs1 c11 c21 hB => ?_⟩⟩
  have hA' : topG (top0 n) l = (pu, (p, c, xs), (a1, n1, c1), (a2, n2, c2)) := hA
  have hB' : topG (top0 n) (subL l 0 k) = (pu1, (p1, k1, xs1), (a11, n11, c11), (a21, n21, c21)) := hB
  have iA := top_inv (l := l) (N := n) g1 (by omega)
  have iB := top_inv (l := subL l 0 k) (N := n) g1 (by omega)
  rw [hA'] at iA
  rw [hB'] at iB
  have hpu1 : pu1 = lenI (subL l 0 k) := iB.pu
  refine ⟨g5, g6, Int.le_refl _, iB.ok a0 (by omega), by unfold roomT; omega, fun pu2 p2 k2 a12 n12 a22 n22 xs2 c12 c22 hC => ?_⟩
  have hC' : topG (pu1, (p1, k1, xs1), (a11, n11, c11), (a21, n21, c21)) (subL l k (lenI l)) = (pu2, (p2, k2, xs2), (a12, n12, c12), (a22, n22, c22)) := hC
  rw [← hB', ← topG_app, hAB, hA'] at hC'
  simp only [Prod.mk.injEq] at hC'
  obtain ⟨rfl, ⟨rfl, rfl, rfl⟩, ⟨rfl, rfl, rfl⟩, rfl, rfl, rfl⟩ := hC'
  have okA := iA.ok hll (by omega)
  obtain ⟨i1, ⟨⟨o1, o2, o3⟩, o4, o5, o6⟩, i3, i4⟩ := iA
  dsimp only at i1 o1 o4 o5 o6 i3 i4
  have hf : pu - c = if lenI l ≤ n then 0 else lenI l - n := by rw [i1, o5]; split <;> omega
  obtain ⟨u1, u2, ⟨u3, u4, u5, u6⟩, u7⟩ := i3.best (f := pu - c) (by omega) hf
  obtain ⟨w1, w2, ⟨w3, w4, w5, w6⟩, w7⟩ := i4.best (f := pu - c) (by omega) hf
  have hR : ringOK xs p c := okA.2.1
  have okA' : topOK pu p c xs (qbA c1 a1 n1 (pu - c)) (qbN c1 a1 n1 (pu - c)) c1 a2 n2 c2 := ⟨okA.1, okA.2.1, u2, okA.2.2.2⟩
  have eE : eqB (topE true) 0 = true := rfl
  have hc : selI (ltB (lenI l) n) (lenI l) n = c := by rw [o5, selI_def, ltB_def]; split <;> rename_i h <;> simp only [decide_eq_true_eq, Bool.not_eq_true, decide_eq_false_iff_not] at h <;> omega
  refine ⟨okA, okA, okA', ?_⟩
  rw [u1, w1, eE, eqB_t.2 (rfl : qbV c1 a1 n1 (pu - c) = _), hc, eqB_t.2 (rfl : c = c)]
  refine ⟨hR, ?_⟩
  have hf0 : (0 : Int) ≤ pu - c := by rw [hf]; split <;> omega
  have hp : lenI l - c ≤ lenI l - c := Int.le_refl _
  have hT : topsOK l xs p c (qbV c1 a1 n1 (pu - c)) (qbV c2 a2 n2 (pu - c)) := by
    have hag : ∀ j, 0 ≤ j → j < c → ago xs p j = nth (.int .i64) l (lenI l - 1 - j) := fun j j0 j1 => by
      unfold ago
      rw [o1, o4]
      have e : lenI l % n - 1 - j + 2 * n = (lenI l - 1 - j) + n * (2 - lenI l / n) := by
        have := Int.emod_add_mul_ediv (lenI l) n
        rw [Int.mul_sub]
        omega
      rw [e, Int.add_mul_emod_self_left]
      exact o6 (lenI l - 1 - j) (by omega) (by omega) (by omega)
    refine ⟨hR, by omega, g3, fun j j0 j1 => ⟨hag j j0 j1, ?_, ?_⟩, ⟨lenI l - 1 - u3, by omega, by omega, ?_⟩, ⟨lenI l - 1 - w3, by omega, by omega, ?_⟩⟩
    · rw [hag j j0 j1]
      have := u7 (lenI l - 1 - j) (by omega) (by omega)
      simp only [noB, Bool.not_eq_true', decide_eq_false_iff_not] at this
      omega
    · rw [hag j j0 j1]
      have := w7 (lenI l - 1 - j) (by omega) (by omega)
      simp only [noB, Bool.not_eq_true', decide_eq_false_iff_not] at this
      omega
    · rw [hag _ (by omega) (by omega)]
      have : lenI l - 1 - (lenI l - 1 - u3) = u3 := by omega
      rw [this]; exact u6
    · rw [hag _ (by omega) (by omega)]
      have : lenI l - 1 - (lenI l - 1 - w3) = w3 := by omega
      rw [this]; exact w6
  rw [ifB_def]
  refine ⟨fun hx => (Bool.noConfusion hx), fun _ => ⟨hT, ⟨fun y hy => ?_, trivial⟩, fun y hy => hy.2.elim⟩⟩
  obtain ⟨hk, h1, h2⟩ := hy
  rw [h1, h2]
  rfl
theorem RingTops_ev : ∀ xs : DT [(.int .i64), (.list (.int .i64)), (.int .i64)], wfs [(.int .i64), (.list (.int .i64)), (.int .i64)] xs → LawEv (acall tab fs_rnow specs_newtop fns_LRingTops 100 20) 4 (argsA tab #[3, 22, 3].toList [(.int .i64), (.list (.int .i64)), (.int .i64)] xs) := by
  rintro ⟨n, l, k, ⟨⟩⟩ hw
  exact RingTops_go n l k



theorem RingTops_own : ownKnob Try.prog.godebug = none := by kernel_rfl
theorem RingTops_kids : Kids Try.prog (· < Try.prog.types.size) := kids_rows (by kernel_rfl) (by kernel_rfl)
theorem RingTops_full : ∀ t e, t < Try.prog.types.size → Try.prog.underlying t = some (.slice e) → 0 < Try.prog.cellsOf e := slices_full_of _ (by kernel_rfl)

theorem RingTops_lifted (os : Os) (started : os.Started) (H : Type) (enc : TypeId × Value → H) :
    ReturnsInHanded {} Try.checked os 4 .any (Rows.ringTopsSpec.pre6 enc Try.prog Try.f4 Rows.ringTopsRow.domain false) (Rows.ringTopsSpec.post enc Try.prog Try.f4 false true false false) := by
  refine returnsInHanded_of_change_shaped (C := Try.checked) RingTops_own started (by kernel_rfl) Try.func4
    (ChangeSpec.witness6 (enc := enc) (C := Try.checked) false ⟨#[], #[(Value.int IntKind.i64 0), (Value.slice none 0 0), (Value.int IntKind.i64 0)], []⟩ 8 (by kernel_rfl) (by kernel_rfl) (by kernel_rfl) (by kernel_rfl)) ?_
  intro W base args ds gs before hval hW _ hwt _ _
  refine law_contract' (P := Try.prog) (fn := Try.f4) (s := Rows.ringTopsSpec) (tb := 4) (Ts := [(.int .i64), (.list (.int .i64)), (.int .i64)]) (call := (acall tab fs_rnow specs_newtop fns_LRingTops 100 20)) (f := 4) tabOK RingTops_call RingTops_kids RingTops_full Try.params4 (by decide +kernel) rfl rfl Try.underlying4 ?_ (by kernel_rfl) RingTops_ev hval hW hwt
  intro ds hl
  match ds, hl with
  | [d0, d1, d2], _ => rfl

theorem RingTops_holds : Rows.RingTopsSaid :=
  OpenClaim.holds_of_wide 4 Try.f4 rfl rfl rfl rfl rfl rfl rfl ⟨rfl, rfl, rfl, rfl, rfl⟩ rfl rfl rfl rfl rfl (by kernel_rfl) Try.func4 (by kernel_rfl)
    (of_decide_eq_true (by kernel_rfl)) (by unfold Func.isWrapper; first | (rw [if_pos (by decide +kernel)]; kernel_rfl) | (rw [if_neg (by decide +kernel)]; exact ⟨rfl, rfl⟩))
    (fun os started H enc _ => RingTops_lifted os started H enc)

end Go.Proofs.Ytgifbceiaibejaa
