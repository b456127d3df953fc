/- A core means what its formula means. -/
import Derived.Test.YtmdjpohmbkodeaaPlTraceY
namespace Go.Proofs.Ytmdjpohmbkodeaa.Sx
open Go.RowKit
set_option maxRecDepth 100000
set_option maxHeartbeats 4000000
set_option linter.unusedVariables false
set_option linter.unusedSimpArgs false
theorem norm_ev {nm : List (List UInt8)} {rows : List (List Int)} : ∀ (k : Nat) (n : List (den NodeT)), n.length ≤ k → okT n → (∀ x ∈ n, rightB x) → evF (normF n) nm rows = evF n nm rows
  | 0, n, hk, h, _ => by
    have : n = [] := List.length_eq_zero_iff.1 (by omega)
    subst this
    exact absurd rfl (partsB_iff.1 h.1).1
  | k + 1, [], hk, h, _ => absurd rfl (partsB_iff.1 h.1).1
  | k + 1, x :: l, hk, h, hr => by
    have hsp := partsF_spec h.1
    have ih : ∀ p ∈ partsF (x :: l), coreOK (normF p) ∧ evF (normF p) nm rows = evF p nm rows := fun p hp => by
      have := okT_part h hp
      exact ⟨coreOK_norm k p (by omega) this.1 fun y hy => hr y ((partsF_mem hp).1 y hy), norm_ev k p (by omega) this.1 fun y hy => hr y ((partsF_mem hp).1 y hy)⟩
    have hev : evsF (normsF (partsF (x :: l))) nm rows = evsF (partsF (x :: l)) nm rows := by
      unfold evsF normsF
      rw [List.map_map]
      apply List.map_congr_left
      intro p hp
      exact (ih p hp).2
    have hR : evF (x :: l) nm rows = meansV x.1 x.2.2.1 x.2.2.2.1 x.2.2.2.2.2 x.2.2.2.2.1 nm rows (evsF (normsF (partsF (x :: l))) nm rows) := by rw [evF_eq, hev]
    rw [normF_eq]
    obtain ⟨ps, hps⟩ : ∃ ps, normsF (partsF (x :: l)) = ps := ⟨_, rfl⟩
    have hall : ∀ m ∈ ps, coreOK m := fun m hm => by
      rw [← hps] at hm
      unfold normsF at hm
      rw [List.mem_map] at hm
      obtain ⟨p, hp, rfl⟩ := hm
      exact (ih p hp).1
    have hpl : lenI ps = x.2.1 := by rw [← hps, ← hsp.2.1]; simp [normsF, lenI]
    rw [hps] at hR ⊢
    have hrx := hr x List.mem_cons_self
    have har := (h.2.1 x List.mem_cons_self).2
    obtain ⟨xo, xn, xf, xt, ts, xm, rfl⟩ : ∃ (q1 q2 q3 q4 : Int) (q5 : List (den TermT)) (q6 : Int), x = (q1, q2, q3, q4, q5, q6) := ⟨_, _, _, _, _, _, rfl⟩
    have hrx' : rightF xo xn xf xt ts xm = true := hrx
    have har1 : xo = 3 ∨ xo = 7 ∨ xo = 8 ∨ xo = 9 → xn = 1 := har.1
    have har2 : xo = 6 ∨ xo = 10 → xn = 2 := har.2
    have hpl' : lenI ps = xn := hpl
    have g0 : 1 ≤ lenI ps → coreOK (at0 ps) := fun hl => by
      cases ps with
      | nil => simp [lenI] at hl
      | cons p r => exact hall p List.mem_cons_self
    have g1 : 2 ≤ lenI ps → coreOK (at1 ps) := fun hl => by
      match ps with
      | [] => simp [lenI] at hl
      | [p] => simp [lenI] at hl
      | p :: q :: r => exact hall q (List.mem_cons_of_mem _ List.mem_cons_self)
    have hb : (0 ≤ xf ∧ xf ≤ 2147483647) ∧ (xt ≤ 2147483647 ∧ (0 ≤ xt ∨ xt = -1)) := by
      simp only [rightF, Bool.and_eq_true, Bool.or_eq_true, decide_eq_true_eq] at hrx'
      obtain ⟨⟨⟨⟨⟨b0, b1⟩, b2⟩, b3⟩, b4⟩, b5⟩ := hrx'
      exact ⟨⟨b1, b2⟩, ⟨b3, b4⟩⟩
    have t0 : coreOK [nd 0] := coreOK_nd (.inl rfl)
    rw [hR]
    unfold stepN
    dsimp only
    by_cases e3 : xo = 3
    · rw [if_pos e3]; have := har1 (.inl e3); rw [ev_not (g0 (by omega)), ev_at0, e3]; simp [meansV]
    rw [if_neg e3]
    by_cases e4 : xo = 4
    · rw [if_pos e4, ev_and hall, e4]; simp [meansV]
    rw [if_neg e4]
    by_cases e5 : xo = 5
    · rw [if_pos e5, ev_or hall, e5]; simp [meansV]
    rw [if_neg e5]
    by_cases e6 : xo = 6
    · rw [if_pos e6]
      have := har2 (.inl e6)
      have c0 := g0 (by omega)
      have c1 := g1 (by omega)
      have h2 : ∀ m ∈ [notF (at0 ps), at1 ps], coreOK m := fun m hm => by
        simp only [List.mem_cons, List.not_mem_nil, or_false] at hm
        rcases hm with rfl | rfl
        · exact coreOK_not c0
        · exact c1
      rw [ev_or h2]
      have e : evsF [notF (at0 ps), at1 ps] nm rows = [notV (lenI rows) (hd0 (evsF ps nm rows)), hd1 (evsF ps nm rows)] := by
        rw [← ev_at0, ← ev_at1, ← ev_not c0]; rfl
      rw [e, e6]; simp [meansV]
    rw [if_neg e6]
    by_cases e7 : xo = 7
    · rw [if_pos e7]; have := har1 (.inr (.inl e7)); rw [ev_prev (core_parts (g0 (by omega)).1), ev_at0, e7]; simp only [meansV]; rfl
    rw [if_neg e7]
    by_cases e8 : xo = 8
    · rw [if_pos e8]
      have := har1 (.inr (.inr (.inl e8)))
      rw [ev_since t0 (g0 (by omega)) hb.1.1 hb.2.2, ev_at0, ev_nd0, e8]; simp [meansV]
    rw [if_neg e8]
    by_cases e9 : xo = 9
    · rw [if_pos e9]
      have := har1 (.inr (.inr (.inr e9)))
      have c0 := g0 (by omega)
      have cn := coreOK_not c0
      rw [ev_not (coreOK_since t0 cn hb.1 hb.2), ev_since t0 cn hb.1.1 hb.2.2, ev_not c0, ev_at0, ev_nd0, e9]; simp [meansV]
    rw [if_neg e9]
    by_cases e10 : xo = 10
    · rw [if_pos e10]
      have := har2 (.inr e10)
      rw [ev_since (g0 (by omega)) (g1 (by omega)) hb.1.1 hb.2.2, ev_at0, ev_at1, e10]; simp [meansV]
    rw [if_neg e10]
    exact hR
/-! the nodes of a core -/
def coQ (S : List (den NodeT)) (x : den NodeT) : Prop := (x.1 = 2 → x ∈ S) ∧ badRF x.2.2.1 x.2.2.2.1 = false
def coN (S m : List (den NodeT)) : Prop := ∀ x ∈ m, coQ S x
section
variable {S : List (den NodeT)}
theorem coN_nd {k : Int} (hk : k ≠ 2) : coN S [nd k] := fun x hx => by
  rw [List.mem_singleton] at hx
  subst hx
  exact ⟨fun h => absurd h hk, show badRF 0 0 = false by decide⟩
theorem coN_sub {m p : List (den NodeT)} (h : coN S m) (hs : ∀ x ∈ p, x ∈ m) : coN S p := fun x hx => h x (hs x hx)
theorem coN_make {op fr to : Int} {l : List (List (den NodeT))} (h2 : op ≠ 2) (hb : badRF fr to = false) (h : ∀ p ∈ l, coN S p) : coN S (makeF op fr to [] 0 l) := fun x hx => by
  unfold makeF at hx
  rw [List.mem_cons] at hx
  rcases hx with rfl | hx
  · exact ⟨fun h => absurd h h2, hb⟩
  · obtain ⟨p, hp, hx⟩ := List.mem_flatten.1 hx
    exact h p hp x hx
theorem coN_one {a : List (den NodeT)} (h : coN S a) : ∀ p ∈ [a], coN S p := fun p hp => by rw [List.mem_singleton] at hp; subst hp; exact h
theorem coN_two {a b : List (den NodeT)} (h : coN S a) (k : coN S b) : ∀ p ∈ [a, b], coN S p := fun p hp => by
  simp only [List.mem_cons, List.not_mem_nil, or_false] at hp
  rcases hp with rfl | rfl
  · exact h
  · exact k
theorem coN_not {n : List (den NodeT)} (h : coN S n) : coN S (notF n) := by
  unfold notF
  split
  · exact coN_nd (by decide)
  · split
    · exact coN_nd (by decide)
    · split
      · exact coN_sub h fun x hx => List.mem_of_mem_drop hx
      · exact coN_make (by decide) (by decide) (coN_one h)
theorem coN_prev {n : List (den NodeT)} (h : coN S n) : coN S (prevF n) := by
  unfold prevF
  split
  · exact h
  · exact coN_make (by decide) (by decide) (coN_one h)
theorem coN_since {fr to : Int} {p q : List (den NodeT)} (hb : badRF fr to = false) (hp : coN S p) (hq : coN S q) : coN S (sinceF fr to p q) := by
  unfold sinceF
  split
  · exact coN_nd (by decide)
  · split
    · exact hq
    · split
      · exact hq
      · split
        · exact coN_nd (by decide)
        · exact coN_make (by decide) hb (coN_two hp hq)
theorem coN_flat {l : List (List (den NodeT))} (h : ∀ n ∈ l, coN S n) : ∀ m ∈ flatF l, coN S m := by
  intro m hm
  rcases (ded_size (allF l) []).2 m hm with h2 | h2
  · cases h2
  · unfold allF at h2
    rw [List.mem_flatMap] at h2
    obtain ⟨n, hn, hm⟩ := h2
    split at hm
    · exact coN_sub (h n hn) (partsF_mem hm).1
    · rw [List.mem_singleton] at hm; subst hm; exact h m hn
theorem coN_or {l : List (List (den NodeT))} (h : ∀ n ∈ l, coN S n) : coN S (corF l) := by
  have hf := coN_flat h
  unfold corF
  generalize flatF l = f at hf ⊢
  unfold orFl
  split
  · exact coN_nd (by decide)
  · match f, hf with
    | [], _ => exact coN_nd (by decide)
    | [n], hf => exact hf n (List.mem_singleton.2 rfl)
    | n :: m :: r, hf => exact coN_make (by decide) (by decide) hf
theorem coN_and {l : List (List (den NodeT))} (h : ∀ n ∈ l, coN S n) : coN S (candF l) := by
  unfold candF
  refine coN_not (coN_or fun m hm => ?_)
  unfold nots at hm
  rw [List.mem_map] at hm
  obtain ⟨n, hn, rfl⟩ := hm
  exact coN_not (h n hn)
theorem coN_norm : ∀ (k : Nat) (n : List (den NodeT)), n.length ≤ k → coN S n → coN S (normF n)
  | 0, n, hk, h => by
    have : n = [] := List.length_eq_zero_iff.1 (by omega)
    subst this
    exact h
  | k + 1, [], hk, h => h
  | k + 1, x :: l, hk, h => by
    have ih : ∀ m ∈ normsF (partsF (x :: l)), coN S m := fun m hm => by
      unfold normsF at hm
      rw [List.mem_map] at hm
      obtain ⟨p, hp, rfl⟩ := hm
      have hm := partsF_mem hp
      have hl := hm.2.1
      unfold lenI at hl
      exact coN_norm k p (by omega) (coN_sub h hm.1)
    rw [normF_eq]
    generalize normsF (partsF (x :: l)) = ps at ih ⊢
    have a0 : coN S (at0 ps) := by
      cases ps with
      | nil => intro y hy; cases hy
      | cons p r => exact ih p List.mem_cons_self
    have a1 : coN S (at1 ps) := by
      match ps, ih with
      | [], _ => intro y hy; cases hy
      | [p], _ => intro y hy; cases hy
      | p :: q :: r, ih => exact ih q (List.mem_cons_of_mem _ List.mem_cons_self)
    have hb := (h x List.mem_cons_self).2
    have t0 : coN S [nd 0] := coN_nd (by decide)
    unfold stepN
    dsimp only
    split
    · exact coN_not a0
    · split
      · exact coN_and ih
      · split
        · exact coN_or ih
        · split
          · exact coN_or (coN_two (coN_not a0) a1)
          · split
            · exact coN_prev a0
            · split
              · exact coN_since hb t0 a0
              · split
                · exact coN_not (coN_since hb t0 (coN_not a0))
                · split
                  · exact coN_since hb a0 a1
                  · exact h
end
theorem ovL_iff {nm : List (List UInt8)} {rows : List (List Int)} {i : Int} : ∀ (s : List (den NodeT)) (o : Int), i < ovL s nm rows o ↔ i < o ∧ ∀ x ∈ s, i < mO nm rows x
  | [], o => by
    show i < o ↔ _
    simp
  | x :: s, o => by
    show i < ovL s nm rows (min o (mO nm rows x)) ↔ _
    rw [ovL_iff s]
    simp only [List.mem_cons, forall_eq_or_imp]
    constructor
    · rintro ⟨h1, h2⟩; exact ⟨by omega, by omega, h2⟩
    · rintro ⟨h1, h2, h3⟩; exact ⟨by omega, h3⟩
theorem valid_rightB {n : List (den NodeT)} (h : validF n = true) : ∀ x ∈ n, rightB x := fun x hx => by
  simp only [validF, Bool.and_eq_true, decide_eq_true_eq, Bool.not_eq_true', List.any_eq_false] at h
  have := h.1.1.2 x hx
  unfold rightB
  simpa [nrightF, notB] using this
theorem ranges_all {n : List (den NodeT)} : rangesF n = true ↔ ∀ x ∈ n, badRF x.2.2.1 x.2.2.2.1 = false := by
  simp only [rangesF, Bool.not_eq_true', List.any_eq_false, idxRange_p, Bool.not_eq_true]
theorem norm_nodes {n : List (den NodeT)} (h : rangesF n = true) : coN n (normF n) := coN_norm n.length n (Nat.le_refl _) fun x hx => ⟨fun _ => hx, ranges_all.1 h x hx⟩
theorem norm_right {n : List (den NodeT)} (hv : validF n = true) (h : rangesF n = true) : rightE (normF n) = 0 := by
  have hc := coreOK_norm n.length n (Nat.le_refl _) (okT_valid hv) (valid_rightB hv)
  have hr : rangesF (normF n) = true := ranges_all.2 fun x hx => (norm_nodes h x hx).2
  unfold rightE
  rw [if_neg (by rintro ⟨_, h⟩; rw [hc.1] at h; cases h), if_neg (by rw [hr]; simp)]
def coresOK (l m : List Int) : Prop := ∀ i, 0 ≤ i → i < lenI l → nth (.int .i64) l i ≠ 2 → nth (.int .i64) l i = nth (.int .i64) m i
theorem cores_ok {n : List (den NodeT)} {nm : List (List UInt8)} {rows : List (List Int)} (hv : validF n = true) (hr : rangesF n = true) (e : rightE n = 0) (mn : midN n) (mc : midN (normF n)) : coresOK (allL n nm rows) (allL (normF n) nm rows) := by
  intro i i0 i1 h2
  rw [all_len e mn] at i1
  rw [all_nth e mn i0 i1] at h2 ⊢
  rw [all_nth (norm_right hv hr) mc i0 i1]
  have h3 : i < ovL n nm rows (lenI rows) := Int.not_le.1 fun hh => h2 (if_pos hh)
  have h4 := (ovL_iff _ _).1 h3
  have h5 : i < ovL (normF n) nm rows (lenI rows) := (ovL_iff _ _).2 ⟨h4.1, fun x hx => by
    by_cases e2 : x.1 = 2
    · exact h4.2 x ((norm_nodes hr x hx).1 e2)
    · unfold mO; rw [if_neg e2]; exact i1⟩
  rw [if_neg (show ¬ ovL n nm rows (lenI rows) ≤ i by omega), if_neg (show ¬ ovL (normF n) nm rows (lenI rows) ≤ i by omega), norm_ev n.length n (Nat.le_refl _) (okT_valid hv) (valid_rightB hv)]
end Go.Proofs.Ytmdjpohmbkodeaa.Sx

