/- The tops: the greatest and the least number of those that are there (no program here). -/
import Derived.Test.YtgifbceiaibejaaSmRingT
namespace Go.Proofs.Ytgifbceiaibejaa.Sx
open Go.RowKit
set_option maxRecDepth 100000
set_option maxHeartbeats 4000000
set_option linter.unusedVariables false
set_option linter.unusedSimpArgs false
theorem mod2 {x N : Int} (h0 : 0 ≤ x) (h1 : x < 2 * N) : x % N = if x < N then x else x - N := by
  split
  · exact Int.emod_eq_of_lt h0 (by assumption)
  · have : x = (x - N) + N * 1 := by omega
    rw [this, Int.add_mul_emod_self_left, Int.emod_eq_of_lt (by omega) (by omega)]
    omega
theorem noB_trans {g : Bool} {a b c : Int} (h1 : noB g a b = true) (h2 : noB g b c = true) : noB g a c = true := by
  cases g <;> simp only [noB, Bool.not_eq_true', decide_eq_false_iff_not] at * <;> omega
theorem noB_of {g : Bool} {a b : Int} (h : noB g a b = false) : noB g b a = true := by
  cases g <;> simp only [noB, Bool.not_eq_true', Bool.not_eq_false', decide_eq_true_eq, decide_eq_false_iff_not] at * <;> omega
theorem noB_refl {g : Bool} {a : Int} : noB g a a = true := by cases g <;> simp [noB]
def qv (xs : List (den EntT)) (a j : Int) : Int := (qat xs a j).1
def qp (xs : List (den EntT)) (a j : Int) : Int := (qat xs a j).2
theorem popG_s {g : Bool} {xs : List (den EntT)} {a v : Int} {m : Nat} : popG g xs a v (m + 1) = if noB g (qv xs a m) v = true then popG g xs a v m else m + 1 := rfl
theorem dropG_s {xs : List (den EntT)} {frm a : Int} {m : Nat} : dropG xs frm (m + 1) a = if qp xs a 0 < frm then dropG xs frm m ((a + 1) % lenI xs) else (a, (m : Int) + 1) := rfl
/-- what is popped -/
theorem popG_spec {g : Bool} {xs : List (den EntT)} {a v : Int} : ∀ m : Nat, (∀ j : Nat, popG g xs a v m ≤ j → j < m → noB g (qv xs a j) v = true) ∧ (popG g xs a v m = 0 ∨ noB g (qv xs a ((popG g xs a v m - 1 : Nat) : Int)) v = false)
  | 0 => ⟨fun j h0 h1 => by omega, .inl rfl⟩
  | m + 1 => by
    simp only [popG_s]
    have ih := popG_spec (g := g) (xs := xs) (a := a) (v := v) m
    by_cases h : noB g (qv xs a m) v = true
    · rw [if_pos h]
      refine ⟨fun j h0 h1 => ?_, ih.2⟩
      by_cases hj : j = m
      · subst hj; exact h
      · exact ih.1 j h0 (by omega)
    · rw [if_neg h]
      refine ⟨fun j h0 h1 => by omega, .inr ?_⟩
      have : (m + 1 - 1 : Nat) = m := by omega
      rw [this]
      simpa using h
theorem popN_spec {g : Bool} {xs : List (den EntT)} {a v n : Int} (hn : 0 ≤ n) :
    (∀ j : Int, popN g xs a v n ≤ j → j < n → noB g (qv xs a j) v = true) ∧ (popN g xs a v n = 0 ∨ noB g (qv xs a (popN g xs a v n - 1)) v = false) := by
  have h := popG_spec (g := g) (xs := xs) (a := a) (v := v) n.toNat
  unfold popN
  refine ⟨fun j h0 h1 => ?_, ?_⟩
  · have := h.1 j.toNat (by omega) (by omega)
    have hj : ((j.toNat : Nat) : Int) = j := by omega
    rwa [hj] at this
  · rcases h.2 with h | h
    · left; rw [h]; rfl
    · by_cases h0 : popG g xs a v n.toNat = 0
      · left; rw [h0]; rfl
      · right
        have : ((popG g xs a v n.toNat - 1 : Nat) : Int) = (popG g xs a v n.toNat : Int) - 1 := by omega
        rwa [this] at h
/-- what a queue has of the first so many numbers of a list -/
structure QInv (g : Bool) (l : List Int) (i N : Int) (xs : List (den EntT)) (a n : Int) : Prop where
  len : lenI xs = N
  hN : 1 ≤ N ∧ N ≤ 2000
  ha : 0 ≤ a ∧ a < N
  hn : 0 ≤ n ∧ n ≤ N
  mem : ∀ j, 0 ≤ j → j < n → 0 ≤ (qp xs a j) ∧ (qp xs a j) < i ∧ (qv xs a j) = nth (.int .i64) l (qp xs a j)
  inc : ∀ j k, 0 ≤ j → j < k → k < n → (qp xs a j) < (qp xs a k)
  dec : ∀ j k, 0 ≤ j → j < k → k < n → noB g (qv xs a k) (qv xs a j) = true
  cov : ∀ p, 0 ≤ p → p < i → i ≤ N + p → ∃ j, 0 ≤ j ∧ j < n ∧ p ≤ (qp xs a j) ∧ noB g (nth (.int .i64) l p) (qv xs a j) = true
theorem QInv.ok {g : Bool} {l : List Int} {i N : Int} {xs : List (den EntT)} {a n : Int} (h : QInv g l i N xs a n) : queOK xs a n := by
  obtain ⟨h1, h2, h3, h4, _⟩ := h
  unfold queOK; omega
/-- numbers that grow do so by one at least -/
theorem QInv.grow {g : Bool} {l : List Int} {i N : Int} {xs : List (den EntT)} {a n : Int} (h : QInv g l i N xs a n) : ∀ k : Nat, (k : Int) < n → (qp xs a 0) + k ≤ (qp xs a k)
  | 0, hk => by show _ + 0 ≤ _; rw [Int.add_zero]; exact Int.le_refl _
  | k + 1, hk => by
    have ih := QInv.grow h k (by omega)
    have := h.inc k (k + 1) (by omega) (by omega) (by omega)
    have e : ((k + 1 : Nat) : Int) = (k : Int) + 1 := by omega
    rw [e]
    omega
theorem qat_set {xs : List (den EntT)} {N k : Int} {e : den EntT} (hN : lenI xs = N) (h0 : 0 ≤ k) (h1 : k < N) : nth EntT (setI xs k e) k = e ∧ ∀ j, 0 ≤ j → j ≠ k → nth EntT (setI xs k e) j = nth EntT xs j := by
  unfold lenI at hN
  refine ⟨?_, fun j hj hne => ?_⟩
  · unfold nth setI
    simp only [List.getD, List.getElem?_set]
    simp only [if_true]
    rw [if_pos (by omega)]
    rfl
  · unfold nth setI
    simp only [List.getD, List.getElem?_set]
    rw [if_neg (by omega)]
/-- A queue that is pushed. -/
theorem QInv.push {g : Bool} {l : List Int} {i N : Int} {xs : List (den EntT)} {a n : Int} (h : QInv g l i N xs a n) (hi : 0 ≤ i) :
    QInv g l (i + 1) N (qpC g xs a (nth (.int .i64) l i) i n) (qpA g xs a (nth (.int .i64) l i) n) (qpN g xs a (nth (.int .i64) l i) n) := by
  obtain ⟨v, hv⟩ : ∃ v, nth (.int .i64) l i = v := ⟨_, rfl⟩
  rw [hv]
  have hg := h.grow
  obtain ⟨h1, h2, h3, h4, h5, h6, h7, h8⟩ := h
  have hp := popN_spec (g := g) (xs := xs) (a := a) (v := v) h4.1
  have hl := popN_le (g := g) (xs := xs) (a := a) (v := v) h4.1
  obtain ⟨k, hk⟩ : ∃ k, popN g xs a v n = k := ⟨_, rfl⟩
  rw [hk] at hp hl
  -- how the new queue reads
  have key : ∃ s : Int, (s = 0 ∨ s = 1 ∧ k = N) ∧ qpN g xs a v n = k + 1 - s ∧ (0 ≤ qpA g xs a v n ∧ qpA g xs a v n < N) ∧ (k + 1 - s ≤ N) ∧
      (∀ j, 0 ≤ j → j < k - s → qat (qpC g xs a v i n) (qpA g xs a v n) j = qat xs a (j + s)) ∧ qat (qpC g xs a v i n) (qpA g xs a v n) (k - s) = (v, i) := by
    by_cases hf : k = N
    · have eA : qpA g xs a v n = (a + 1) % N := by unfold qpA; rw [hk, h1, if_pos hf]
      have eN : qpN g xs a v n = N := by unfold qpN; rw [hk, h1, if_pos hf]
      have eC : qpC g xs a v i n = setI xs a (v, i) := by
        unfold qpC
        rw [eA, eN, h1]
        congr 1
        rw [mod2 (x := a + 1) (by omega) (by omega)]
        split
        · rw [mod2 (by omega) (by omega)]; split <;> omega
        · rw [mod2 (by omega) (by omega)]; split <;> omega
      have hm := mod2 (x := a + 1) (N := N) (by omega) (by omega)
      have hs := qat_set (e := (v, i)) h1 h3.1 h3.2
      have hlC : lenI (setI xs a (v, i)) = N := by rw [← h1]; simp [lenI, setI]
      refine ⟨1, .inr ⟨rfl, hf⟩, by rw [eN]; omega, ?_, by omega, fun j h0 hj => ?_, ?_⟩
      · rw [eA, hm]; split <;> omega
      · rw [eC, eA]
        unfold qat
        rw [hlC, h1, hm]
        have e : (if a + 1 < N then a + 1 else a + 1 - N) + j = (a + (j + 1)) ∨ (if a + 1 < N then a + 1 else a + 1 - N) + j = (a + (j + 1)) - N := by split <;> omega
        have hne : (a + (j + 1)) % N ≠ a := by rw [mod2 (by omega) (by omega)]; split <;> omega
        have hnn : 0 ≤ (a + (j + 1)) % N := Int.emod_nonneg _ (by omega)
        have e2 : ((if a + 1 < N then a + 1 else a + 1 - N) + j) % N = (a + (j + 1)) % N := by
          rcases e with e | e
          · rw [e]
          · rw [e]
            have : a + (j + 1) - N = a + (j + 1) + N * (-1) := by omega
            rw [this, Int.add_mul_emod_self_left]
        rw [e2]
        exact hs.2 _ hnn hne
      · rw [eC, eA]
        unfold qat
        rw [hlC, hm]
        have e2 : ((if a + 1 < N then a + 1 else a + 1 - N) + (k - 1)) % N = a := by
          split
          · rw [mod2 (by omega) (by omega)]; split <;> omega
          · rw [mod2 (by omega) (by omega)]; split <;> omega
        rw [e2]
        exact hs.1
    · have eA : qpA g xs a v n = a := by unfold qpA; rw [hk, h1, if_neg hf]
      have eN : qpN g xs a v n = k + 1 := by unfold qpN; rw [hk, h1, if_neg hf]
      have hm0 : 0 ≤ (a + k) % N := Int.emod_nonneg _ (by omega)
      have hm1 : (a + k) % N < N := Int.emod_lt_of_pos _ (by omega)
      have eC : qpC g xs a v i n = setI xs ((a + k) % N) (v, i) := by
        unfold qpC
        rw [eA, eN, h1]
        have : k + 1 - 1 = k := by omega
        rw [this]
      have hs := qat_set (e := (v, i)) h1 hm0 hm1
      have hlC : lenI (setI xs ((a + k) % N) (v, i)) = N := by rw [← h1]; simp [lenI, setI]
      refine ⟨0, .inl rfl, by rw [eN]; omega, by rw [eA]; exact h3, by omega, fun j h0 hj => ?_, ?_⟩
      · rw [eC, eA]
        unfold qat
        rw [hlC, h1, Int.add_zero]
        have hne : (a + j) % N ≠ (a + k) % N := by
          rw [mod2 (x := a + j) (by omega) (by omega), mod2 (x := a + k) (by omega) (by omega)]; split <;> split <;> omega
        exact hs.2 _ (Int.emod_nonneg _ (by omega)) hne
      · rw [eC, eA]
        unfold qat
        rw [hlC, Int.sub_zero]
        exact hs.1
  obtain ⟨s, hs, eN, eA, eL, q1, q2⟩ := key
  obtain ⟨xs', hx⟩ : ∃ xs', qpC g xs a v i n = xs' := ⟨_, rfl⟩
  obtain ⟨a', ha'⟩ : ∃ a', qpA g xs a v n = a' := ⟨_, rfl⟩
  have hlx : lenI xs' = N := by rw [← hx, lenI_qpC]; exact h1
  rw [hx, ha'] at q1 q2
  have q1v : ∀ j, 0 ≤ j → j < k - s → qv xs' a' j = qv xs a (j + s) := fun j h0 h1 => by unfold qv; rw [q1 j h0 h1]
  have q1p : ∀ j, 0 ≤ j → j < k - s → qp xs' a' j = qp xs a (j + s) := fun j h0 h1 => by unfold qp; rw [q1 j h0 h1]
  have q2v : qv xs' a' (k - s) = v := by unfold qv; rw [q2]
  have q2p : qp xs' a' (k - s) = i := by unfold qp; rw [q2]
  rw [ha'] at eA
  rw [hx, ha', eN]
  have hs0 : 0 ≤ s ∧ s ≤ 1 := by omega
  refine ⟨hlx, h2, eA, by omega, fun j j0 j1 => ?_, fun j k' j0 j1 j2 => ?_, fun j k' j0 j1 j2 => ?_, fun p p0 p1 p2 => ?_⟩
  · by_cases hj : j = k - s
    · rw [hj, q2p, q2v]; exact ⟨hi, by omega, hv.symm⟩
    · rw [q1p j j0 (by omega), q1v j j0 (by omega)]
      have := h5 (j + s) (by omega) (by omega)
      exact ⟨this.1, by omega, this.2.2⟩
  · rw [q1p j j0 (by omega)]
    by_cases hj : k' = k - s
    · rw [hj, q2p]; exact (h5 (j + s) (by omega) (by omega)).2.1
    · rw [q1p k' (by omega) (by omega)]
      exact h6 _ _ (by omega) (by omega) (by omega)
  · rw [q1v j j0 (by omega)]
    by_cases hj : k' = k - s
    · rw [hj, q2v]
      rcases hp.2 with hp | hp
      · omega
      · have hb := noB_of hp
        by_cases e : j + s = k - 1
        · rw [e]; exact hb
        · exact noB_trans hb (h7 _ _ (by omega) (by omega) (by omega))
    · rw [q1v k' (by omega) (by omega)]
      exact h7 _ _ (by omega) (by omega) (by omega)
  · by_cases hpi : p = i
    · refine ⟨k - s, by omega, by omega, ?_⟩
      rw [q2p, q2v, hpi, hv]
      exact ⟨Int.le_refl _, noB_refl⟩
    · obtain ⟨j, j0, j1, j2, j3⟩ := h8 p p0 (by omega) (by omega)
      by_cases hjk : j < k
      · by_cases hjs : s ≤ j
        · refine ⟨j - s, by omega, by omega, ?_⟩
          rw [q1p (j - s) (by omega) (by omega), q1v (j - s) (by omega) (by omega)]
          have : j - s + s = j := by omega
          rw [this]
          exact ⟨j2, j3⟩
        · exfalso
          have hj0 : j = 0 := by omega
          have hkN : k = N := by omega
          subst hj0
          have hgr := hg (N - 1).toNat (by omega)
          have e : (((N - 1).toNat : Nat) : Int) = N - 1 := by omega
          rw [e] at hgr
          have := (h5 (N - 1) (by omega) (by omega)).2.1
          omega
      · refine ⟨k - s, by omega, by omega, ?_⟩
        rw [q2p, q2v]
        exact ⟨by omega, noB_trans j3 (hp.1 j (by omega) j1)⟩
theorem dropG_spec {xs : List (den EntT)} {frm N : Int} (hl : lenI xs = N) (hN : 1 ≤ N) : ∀ (m : Nat) (a : Int), 0 ≤ a → a < N → (m : Int) ≤ N →
    ∃ d : Nat, d ≤ m ∧ (dropG xs frm m a).1 = (a + d) % N ∧ (dropG xs frm m a).2 = (m : Int) - d ∧ (∀ j : Int, 0 ≤ j → j < d → (qp xs a j) < frm) ∧ (d = m ∨ ¬ (qp xs a d) < frm)
  | 0, a, h0, h1, _ => ⟨0, Nat.le_refl _, by simp only [dropG]; rw [show ((0 : Nat) : Int) = 0 from rfl, Int.add_zero, Int.emod_eq_of_lt h0 h1], rfl, fun j _ _ => by omega, .inl rfl⟩
  | m + 1, a, h0, h1, hm => by
    simp only [dropG_s]
    by_cases h : (qp xs a 0) < frm
    · rw [if_pos h]
      have hm0 : 0 ≤ (a + 1) % N := Int.emod_nonneg _ (by omega)
      have hm1 : (a + 1) % N < N := Int.emod_lt_of_pos _ (by omega)
      rw [hl]
      obtain ⟨d, d1, d2, d3, d4, d5⟩ := dropG_spec (frm := frm) hl hN m ((a + 1) % N) hm0 hm1 (by omega)
      have hq : ∀ j : Int, 0 ≤ j → qp xs ((a + 1) % N) j = qp xs a (j + 1) := fun j _ => by
        unfold qp qat
        rw [hl, Int.emod_add_emod, show a + 1 + j = a + (j + 1) by omega]
      refine ⟨d + 1, by omega, ?_, ?_, fun j j0 j1 => ?_, ?_⟩
      · rw [d2, Int.emod_add_emod]; congr 1; omega
      · rw [d3]; omega
      · by_cases hj : j = 0
        · subst hj; exact h
        · have := d4 (j - 1) (by omega) (by omega)
          rw [hq _ (by omega)] at this
          have e : j - 1 + 1 = j := by omega
          rwa [e] at this
      · rcases d5 with d5 | d5
        · left; omega
        · right
          rw [hq _ (by omega)] at d5
          exact d5
    · rw [if_neg h]
      refine ⟨0, by omega, by rw [show ((0 : Nat) : Int) = 0 from rfl, Int.add_zero, Int.emod_eq_of_lt h0 h1], rfl, fun j _ _ => by omega, .inr h⟩
/-- The best of a queue. -/
theorem QInv.best {g : Bool} {l : List Int} {i N f : Int} {xs : List (den EntT)} {a n : Int} (h : QInv g l i N xs a n) (hi : 0 < i) (hf : f = if i ≤ N then 0 else i - N) :
    qbB xs a n f = true ∧ queOK xs (qbA xs a n f) (qbN xs a n f) ∧ (∃ p, f ≤ p ∧ p < i ∧ nth (.int .i64) l p = qbV xs a n f) ∧ ∀ p, f ≤ p → p < i → noB g (nth (.int .i64) l p) (qbV xs a n f) = true := by
  obtain ⟨h1, h2, h3, h4, h5, h6, h7, h8⟩ := h
  have hf0 : 0 ≤ f ∧ f < i ∧ i ≤ N + f := by rw [hf]; split <;> omega
  obtain ⟨d, d1, d2, d3, d4, d5⟩ := dropG_spec (frm := f) h1 h2.1 n.toNat a h3.1 h3.2 (by omega)
  have en : ((n.toNat : Nat) : Int) = n := by omega
  rw [en] at d3
  have eA : qbA xs a n f = (a + d) % N := d2
  have eN : qbN xs a n f = n - d := d3
  obtain ⟨j, j0, j1, j2, j3⟩ := h8 (i - 1) (by omega) (by omega) (by omega)
  have hd : (d : Int) ≤ j := by
    by_cases h : (d : Int) ≤ j
    · exact h
    · have := d4 j j0 (by omega); omega
  have hne : ¬ n - (d : Int) = 0 := by omega
  have d6 : f ≤ (qp xs a d) := by
    rcases d5 with d5 | d5
    · omega
    · omega
  have eV : qbV xs a n f = (qv xs a d) := by
    unfold qbV
    rw [eN, if_neg hne, eA]
    unfold qv qat
    rw [h1, Int.add_zero, Int.emod_emod_of_dvd _ (Int.dvd_refl N)]
  have hm := h5 d (by omega) (by omega)
  refine ⟨by unfold qbB; rw [eN]; simpa using hne, ?_, ⟨(qp xs a d), d6, hm.2.1, by rw [eV, ← hm.2.2]⟩, fun p p0 p1 => ?_⟩
  · unfold queOK
    rw [eA, eN, h1]
    have hm0 : 0 ≤ (a + d) % N := Int.emod_nonneg _ (by omega)
    have hm1 : (a + d) % N < N := Int.emod_lt_of_pos _ (by omega)
    omega
  · obtain ⟨k, k0, k1, k2, k3⟩ := h8 p (by omega) p1 (by omega)
    have hdk : (d : Int) ≤ k := by
      by_cases h : (d : Int) ≤ k
      · exact h
      · have := d4 k k0 (by omega); omega
    rw [eV]
    by_cases e : k = d
    · rw [e] at k3; exact k3
    · exact noB_trans k3 (h7 _ _ (by omega) (by omega) k1)
theorem lastT_step {xs : List Int} {p c : Int} {l : List Int} {i n : Int} (hi : 0 ≤ i) (h : ((lenI xs = n ∧ 1 ≤ n ∧ n ≤ 2000) ∧ p = i % n ∧ c = min i n ∧ ∀ j : Int, 0 ≤ j → j < i → i ≤ n + j → nth (.int .i64) xs (j % n) = nth (.int .i64) l j)) :
    (lenI (setI xs p (nth (.int .i64) l i)) = n ∧ 1 ≤ n ∧ n ≤ 2000) ∧ (if p + 1 = lenI xs then 0 else p + 1) = (i + 1) % n ∧ (if c + 1 ≤ lenI xs then c + 1 else lenI xs) = min (i + 1) n ∧ ∀ j : Int, 0 ≤ j → j < i + 1 → i + 1 ≤ n + j → nth (.int .i64) (setI xs p (nth (.int .i64) l i)) (j % n) = nth (.int .i64) l j := by
  obtain ⟨⟨o1, o2, o3⟩, o4, o5, o6⟩ := h
  have hp0 : 0 ≤ p := by rw [o4]; exact Int.emod_nonneg _ (by omega)
  have hp1 : p < n := by rw [o4]; exact Int.emod_lt_of_pos _ (by omega)
  have hd := Int.emod_add_mul_ediv i n
  refine ⟨⟨by rw [lenI_setI]; exact o1, o2, o3⟩, ?_, ?_, fun j h0 h1 h2 => ?_⟩
  · rw [o1]
    split
    · rename_i e
      have : i + 1 = 0 + n * (i / n + 1) := by rw [Int.mul_add]; omega
      rw [this, Int.add_mul_emod_self_left]; rfl
    · have : i + 1 = (p + 1) + n * (i / n) := by omega
      rw [this, Int.add_mul_emod_self_left, Int.emod_eq_of_lt (by omega) (by omega)]
  · rw [o1]; split <;> omega
  · by_cases hj : j = i
    · subst hj
      rw [← o4]
      unfold nth setI
      have : p.toNat < xs.length := by unfold lenI at o1; omega
      simp [List.getD, this]
    · have hji : j % n ≠ p := by
        intro e
        rw [o4] at e
        have := Int.emod_emod_of_dvd
        have h3 : (i - j) % n = 0 := by rw [Int.sub_emod, ← e]; simp
        rw [Int.emod_eq_of_lt (by omega) (by omega)] at h3
        omega
      have hm0 : 0 ≤ j % n := Int.emod_nonneg _ (by omega)
      have := o6 j h0 (by omega) (by omega)
      rw [← this]
      unfold nth setI
      simp only [List.getD, List.getElem?_set]
      rw [if_neg (by omega)]
/-- what a top has of the first so many numbers of a list -/
structure TInv (l : List Int) (i N : Int) (s : TopD) : Prop where
  pu : s.1 = i
  ring : (lenI s.2.1.2.2 = N ∧ 1 ≤ N ∧ N ≤ 2000) ∧ s.2.1.1 = i % N ∧ s.2.1.2.1 = min i N ∧ ∀ j : Int, 0 ≤ j → j < i → i ≤ N + j → nth (.int .i64) s.2.1.2.2 (j % N) = nth (.int .i64) l j
  qmax : QInv true l i N s.2.2.1.2.2 s.2.2.1.1 s.2.2.1.2.1
  qmin : QInv false l i N s.2.2.2.2.2 s.2.2.2.1 s.2.2.2.2.1
theorem TInv.step {l : List Int} {i N : Int} {s : TopD} (h : TInv l i N s) (hi : 0 ≤ i) : TInv l (i + 1) N (stepT s (nth (.int .i64) l i)) := by
  obtain ⟨pu, ⟨p, c, xs⟩, ⟨a1, n1, c1⟩, ⟨a2, n2, c2⟩⟩ := s
  obtain ⟨h1, h2, h3, h4⟩ := h
  dsimp only at h1 h2 h3 h4
  subst h1
  exact ⟨rfl, lastT_step hi h2, h3.push hi, h4.push hi⟩
theorem TInv.all {l : List Int} {N : Int} : ∀ (k : Nat) (i : Int) (s : TopD), 0 ≤ i → i + k = lenI l → TInv l i N s → TInv l (lenI l) N (topG s (l.drop i.toNat))
  | 0, i, s, h0, hk, h => by
    have : i = lenI l := by omega
    subst this
    rw [drop_all (Int.le_refl _)]
    exact h
  | k + 1, i, s, h0, hk, h => by
    rw [drop_nth (t := .int .i64) h0 (by omega)]
    simp only [topG]
    exact TInv.all k (i + 1) _ (by omega) (by omega) (h.step h0)
theorem topG_app : ∀ (l m : List Int) (s : TopD), topG s (l ++ m) = topG (topG s l) m
  | [], m, s => rfl
  | v :: l, m, s => by simp only [List.cons_append, topG]; exact topG_app l m _
def top0 (N : Int) : TopD := (0, (0, 0, repI N (0 : Int)), (0, 0, repI N ((0 : Int), (0 : Int))), (0, 0, repI N ((0 : Int), (0 : Int))))
theorem top0_inv {l : List Int} {N : Int} (h0 : 1 ≤ N) (h1 : N ≤ 2000) : TInv l 0 N (top0 N) := by
  have hr : ∀ {α : Type} (x : α), lenI (repI N x) = N := fun x => by simp [lenI, repI]; omega
  have hq : ∀ g, QInv g l 0 N (repI N ((0 : Int), (0 : Int))) 0 0 := fun g => ⟨hr _, ⟨h0, h1⟩, by omega, by omega, fun j _ _ => by omega, fun j k _ _ _ => by omega, fun j k _ _ _ => by omega, fun p _ _ => by omega⟩
  exact ⟨rfl, ⟨⟨hr _, h0, h1⟩, by simp [top0], by show (0 : Int) = min 0 N; omega, fun j _ _ => by omega⟩, hq true, hq false⟩
theorem top_inv {l : List Int} {N : Int} (h0 : 1 ≤ N) (h1 : N ≤ 2000) : TInv l (lenI l) N (topG (top0 N) l) := by
  have := TInv.all (l := l) (N := N) l.length 0 (top0 N) (Int.le_refl _) (by show 0 + _ = _; unfold lenI; omega) (top0_inv h0 h1)
  exact this
theorem TInv.ok {l : List Int} {i N : Int} {pu p c : Int} {xs : List Int} {a1 n1 : Int} {c1 : List (den EntT)} {a2 n2 : Int} {c2 : List (den EntT)} (h : TInv l i N (pu, (p, c, xs), (a1, n1, c1), (a2, n2, c2))) (hi : 0 ≤ i) (hi2 : i ≤ 4000000000000000) :
    topOK pu p c xs a1 n1 c1 a2 n2 c2 := by
  obtain ⟨h1, ⟨⟨o1, o2, o3⟩, o4, o5, o6⟩, h3, h4⟩ := h
  dsimp only at *
  unfold topOK ringOK
  have hp0 : 0 ≤ p := by rw [o4]; exact Int.emod_nonneg _ (by omega)
  have hp1 : p < N := by rw [o4]; exact Int.emod_lt_of_pos _ (by omega)
  exact ⟨by omega, by omega, h3.ok, h4.ok⟩
end Go.Proofs.Ytgifbceiaibejaa.Sx

