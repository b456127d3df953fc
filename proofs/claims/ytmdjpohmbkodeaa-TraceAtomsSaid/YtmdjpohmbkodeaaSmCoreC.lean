/- The core of a formula: what the functions come to. -/
import Derived.Test.YtmdjpohmbkodeaaSmCoreB
import Derived.Test.YtmdjpohmbkodeaaPlTreeP
namespace Go.Proofs.Ytmdjpohmbkodeaa.Sx
open Go.RowKit
set_option maxRecDepth 100000
set_option maxHeartbeats 4000000
set_option linter.unusedVariables false
set_option linter.unusedSimpArgs false
def at0 (l : List (List (den NodeT))) : List (den NodeT) := l.getD 0 []
def at1 (l : List (List (den NodeT))) : List (den NodeT) := l.getD 1 []
/-- the core of a part, of the cores of its parts -/
def stepN (n : List (den NodeT)) (l : List (List (den NodeT))) : List (den NodeT) :=
  match n with
  | [] => []
  | x :: _ => if x.1 = 3 then notF (at0 l) else if x.1 = 4 then candF l else if x.1 = 5 then corF l else if x.1 = 6 then corF [notF (at0 l), at1 l] else if x.1 = 7 then prevF (at0 l) else if x.1 = 8 then sinceF x.2.2.1 x.2.2.2.1 [nd 0] (at0 l) else if x.1 = 9 then notF (sinceF x.2.2.1 x.2.2.2.1 [nd 0] (notF (at0 l))) else if x.1 = 10 then sinceF x.2.2.1 x.2.2.2.1 (at0 l) (at1 l) else n
def normG : Nat → List (den NodeT) → List (den NodeT)
  | 0, n => n
  | k + 1, n => stepN n ((partsF n).map (normG k))
def normF (n : List (den NodeT)) : List (den NodeT) := normG n.length n
def arityOK (x : den NodeT) : Prop := (x.1 = 3 ∨ x.1 = 7 ∨ x.1 = 8 ∨ x.1 = 9 → x.2.1 = 1) ∧ (x.1 = 6 ∨ x.1 = 10 → x.2.1 = 2)
def okT (n : List (den NodeT)) : Prop := partsB n = true ∧ (∀ x ∈ n, fits x.2.2.2.2.1 ∧ arityOK x) ∧ lenI n ≤ 300
def normsF (l : List (List (den NodeT))) : List (List (den NodeT)) := l.map normF
theorem normG_fuel : ∀ (k j : Nat) (n : List (den NodeT)), n.length ≤ k → n.length ≤ j → normG k n = normG j n
  | 0, j, n, h, _ => by
    have : n = [] := List.length_eq_zero_iff.1 (by omega)
    subst this
    cases j <;> rfl
  | k + 1, 0, n, _, h => by
    have : n = [] := List.length_eq_zero_iff.1 (by omega)
    subst this
    rfl
  | k + 1, j + 1, n, h1, h2 => by
    simp only [normG]
    congr 1
    apply List.map_congr_left
    intro p hp
    have hm := (partsF_mem hp).2.1
    unfold lenI at hm
    exact normG_fuel k j p (by omega) (by omega)
theorem normF_eq (n : List (den NodeT)) : normF n = stepN n (normsF (partsF n)) := by
  unfold normF
  cases hn : n.length with
  | zero =>
    have : n = [] := List.length_eq_zero_iff.1 hn
    subst this
    rfl
  | succ j =>
    simp only [normG, normsF]
    congr 1
    apply List.map_congr_left
    intro p hp
    have hm := (partsF_mem hp).2.1
    unfold lenI at hm
    exact normG_fuel j p.length p (by omega) (Nat.le_refl _)
theorem cutT_le {L : Int} : ∀ (k : Nat) (l : List (den NodeT)), lenI (cutT L k l) ≤ k
  | 0, l => by simp [cutT, lenI]
  | k + 1, [] => by simp only [cutT, lenI_nil]; omega
  | k + 1, x :: l => by
    simp only [cutT]
    split
    · rw [lenI_nil]; omega
    · rw [len_cons]
      have := cutT_le (L := L) k
      rename_i r _
      have := this r
      omega
theorem parts_le (n : List (den NodeT)) : lenI (partsF n) ≤ lenI n := by
  unfold partsF
  split
  · have := cutT_le (L := lenI n) n.length (n.drop 1); unfold lenI at *; omega
  · rw [lenI_nil]; exact lenI_nn n
theorem okT_part {n p : List (den NodeT)} (h : okT n) (hp : p ∈ partsF n) : okT p ∧ p.length < n.length := by
  have hm := partsF_mem hp
  have hl : p.length < n.length := by have := hm.2.1; unfold lenI at this; omega
  refine ⟨⟨hm.2.2, fun x hx => h.2.1 x (hm.1 x hx), ?_⟩, hl⟩
  have := h.2.2
  have := hm.2.1
  omega
/-! how great what is made can be -/
def lens (l : List (List (den NodeT))) : Int := lenI l.flatten
def allTF (l : List (List (den NodeT))) : Prop := ∀ n ∈ l, termsFit n
theorem lens_nil : lens [] = 0 := rfl
theorem lens_cons {a : List (den NodeT)} {l : List (List (den NodeT))} : lens (a :: l) = lenI a + lens l := by simp [lens, lenI]
theorem lens_app {a l : List (List (den NodeT))} : lens (a ++ l) = lens a + lens l := by simp [lens, lenI]
theorem lens_nn (l : List (List (den NodeT))) : 0 ≤ lens l := lenI_nn _
theorem tf_nil : termsFit [] := fun x hx => by cases hx
theorem tf_nd (op : Int) : termsFit [nd op] := fun x hx => by
  rw [List.mem_singleton] at hx; subst hx
  show fits ([] : List (den TermT)); unfold fits lenI; simp
theorem tf_sub {n m : List (den NodeT)} (h : termsFit n) (hs : ∀ x ∈ m, x ∈ n) : termsFit m := fun x hx => h x (hs x hx)
theorem tf_flat {l : List (List (den NodeT))} (h : allTF l) : termsFit l.flatten := fun x hx => by
  obtain ⟨n, hn, hx⟩ := List.mem_flatten.1 hx
  exact h n hn x hx
theorem tf_make {op fr to : Int} {l : List (List (den NodeT))} (h : allTF l) : termsFit (makeF op fr to [] 0 l) := fun x hx => by
  unfold makeF at hx
  rw [List.mem_cons] at hx
  rcases hx with rfl | hx
  · show fits ([] : List (den TermT)); unfold fits lenI; simp
  · exact tf_flat h x hx
theorem len_make {op fr to : Int} {l : List (List (den NodeT))} : lenI (makeF op fr to [] 0 l) = 1 + lens l := by
  unfold makeF lens; rw [len_cons]; omega
theorem not_size {n : List (den NodeT)} (h : termsFit n) : lenI (notF n) ≤ lenI n + 1 ∧ termsFit (notF n) := by
  have h0 := lenI_nn n
  unfold notF
  split
  · exact ⟨by show (1 : Int) ≤ _; omega, tf_nd 1⟩
  · split
    · exact ⟨by show (1 : Int) ≤ _; omega, tf_nd 0⟩
    · split
      · refine ⟨?_, tf_sub h fun x hx => List.mem_of_mem_drop hx⟩
        unfold lenI; rw [List.length_drop]; omega
      · refine ⟨?_, tf_make fun m hm => ?_⟩
        · rw [len_make, lens_cons, lens_nil]; omega
        · rw [List.mem_singleton] at hm; subst hm; exact h
theorem prev_size {n : List (den NodeT)} (h : termsFit n) : lenI (prevF n) ≤ lenI n + 1 ∧ termsFit (prevF n) := by
  have h0 := lenI_nn n
  unfold prevF
  split
  · exact ⟨by omega, h⟩
  · refine ⟨?_, tf_make fun m hm => ?_⟩
    · rw [len_make, lens_cons, lens_nil]; omega
    · rw [List.mem_singleton] at hm; subst hm; exact h
theorem since_size {fr to : Int} {p q : List (den NodeT)} (hp : termsFit p) (hq : termsFit q) : lenI (sinceF fr to p q) ≤ lenI p + lenI q + 1 ∧ termsFit (sinceF fr to p q) := by
  have h0 := lenI_nn p
  have h1 := lenI_nn q
  unfold sinceF
  split
  · exact ⟨by show (1 : Int) ≤ _; omega, tf_nd 1⟩
  · split
    · exact ⟨by omega, hq⟩
    · split
      · exact ⟨by omega, hq⟩
      · split
        · exact ⟨by show (1 : Int) ≤ _; omega, tf_nd 1⟩
        · refine ⟨?_, tf_make fun m hm => ?_⟩
          · rw [len_make, lens_cons, lens_cons, lens_nil]; omega
          · simp only [List.mem_cons, List.not_mem_nil, or_false] at hm
            rcases hm with rfl | rfl
            · exact hp
            · exact hq
theorem parts_lens (n : List (den NodeT)) : lens (partsF n) ≤ lenI n := by
  by_cases hB : partsB n = true
  · cases n with
    | nil => cases (partsB_iff.1 hB).1 rfl
    | cons x l => unfold lens; rw [(partsF_spec hB).1, len_cons]; omega
  · unfold partsF; rw [if_neg hB]; exact lenI_nn n
theorem allF_cons {n : List (den NodeT)} {l : List (List (den NodeT))} : allF (n :: l) = (if isOpF n 5 = true then partsF n else [n]) ++ allF l := by simp [allF]
theorem allF_size : ∀ (l : List (List (den NodeT))), lens (allF l) ≤ lens l ∧ lenI (allF l) ≤ lenI l + lens l
  | [] => ⟨Int.le_refl _, Int.le_refl _⟩
  | n :: l => by
    have ih := allF_size l
    have h1 := parts_lens n
    have h2 := parts_le n
    have h3 := lenI_nn n
    rw [allF_cons, lens_cons, lens_app, lenI_app, len_cons]
    split
    · omega
    · rw [lens_cons, lens_nil, len_cons, lenI_nil]; omega
theorem allF_tf {l : List (List (den NodeT))} (h : allTF l) : allTF (allF l) := by
  intro m hm
  unfold allF at hm
  rw [List.mem_flatMap] at hm
  obtain ⟨n, hn, hm⟩ := hm
  split at hm
  · exact tf_sub (h n hn) (partsF_mem hm).1
  · rw [List.mem_singleton] at hm; rw [hm]; exact h n hn
theorem ded_size : ∀ (l out : List (List (den NodeT))), lens (dedG out l) ≤ lens out + lens l ∧ ∀ m ∈ dedG out l, m ∈ out ∨ m ∈ l
  | [], out => ⟨by show lens out ≤ _; rw [lens_nil]; omega, fun m hm => .inl hm⟩
  | n :: l, out => by
    have h3 := lenI_nn n
    rw [lens_cons]
    simp only [dedG]
    split
    · have ih := ded_size l out
      exact ⟨by omega, fun m hm => (ih.2 m hm).imp id fun h => List.mem_cons_of_mem _ h⟩
    · have ih := ded_size l (out ++ [n])
      rw [lens_app, lens_cons, lens_nil] at ih
      refine ⟨by omega, fun m hm => ?_⟩
      rcases ih.2 m hm with h | h
      · rw [List.mem_append, List.mem_singleton] at h
        rcases h with h | rfl
        · exact .inl h
        · exact .inr List.mem_cons_self
      · exact .inr (List.mem_cons_of_mem _ h)
theorem flat_size (l : List (List (den NodeT))) : lens (flatF l) ≤ lens l := by
  have h1 := (ded_size (allF l) []).1
  have h2 := (allF_size l).1
  rw [lens_nil] at h1
  unfold flatF
  omega
theorem flat_tf {l : List (List (den NodeT))} (h : allTF l) : allTF (flatF l) := by
  intro m hm
  rcases (ded_size (allF l) []).2 m hm with h1 | h1
  · cases h1
  · exact allF_tf h m h1
theorem or_size {l : List (List (den NodeT))} (h : allTF l) : lenI (corF l) ≤ lens l + 1 ∧ termsFit (corF l) := by
  have h0 := lens_nn l
  have h1 := flat_size l
  have h2 := flat_tf h
  unfold corF
  generalize flatF l = f at h1 h2 ⊢
  unfold orFl
  split
  · exact ⟨by show (1 : Int) ≤ _; omega, tf_nd 0⟩
  · match f with
    | [] => exact ⟨by show (1 : Int) ≤ _; omega, tf_nd 1⟩
    | [n] =>
      rw [lens_cons, lens_nil] at h1
      exact ⟨by dsimp only; omega, h2 n (List.mem_singleton.2 rfl)⟩
    | n :: m :: r =>
      dsimp only
      rw [len_make]
      exact ⟨by omega, tf_make h2⟩
theorem nots_size : ∀ {l : List (List (den NodeT))}, allTF l → lens (nots l) ≤ lens l + lenI l ∧ allTF (nots l)
  | [], h => ⟨Int.le_refl _, fun m hm => by cases hm⟩
  | n :: l, h => by
    have hn := not_size (h n List.mem_cons_self)
    have ih := nots_size (l := l) fun m hm => h m (List.mem_cons_of_mem _ hm)
    simp only [nots, List.map_cons] at ih ⊢
    rw [lens_cons, lens_cons, len_cons]
    refine ⟨by omega, fun m hm => ?_⟩
    rw [List.mem_cons] at hm
    rcases hm with rfl | hm
    · exact hn.2
    · exact ih.2 m hm
theorem and_size {l : List (List (den NodeT))} (h : allTF l) : lenI (candF l) ≤ lens l + lenI l + 2 ∧ termsFit (candF l) := by
  have h1 := nots_size h
  have h2 := or_size h1.2
  have h3 := not_size h2.2
  unfold candF
  exact ⟨by omega, h3.2⟩
theorem mem_lens {n : List (den NodeT)} {l : List (List (den NodeT))} (h : n ∈ l) : lenI n ≤ lens l := len_flatten h
theorem allOK_of {l : List (List (den NodeT))} (h : allTF l) (h1 : lenI l ≤ 300000) (h2 : lens l ≤ 300000) : allOK l := by
  have h3 := allF_size l
  have h4 := flat_size l
  have h5 := flat_tf h
  refine ⟨⟨fun n hn => ?_, by omega, by omega⟩, fun n hn => ⟨?_, h5 n hn⟩, fun n hn => ⟨?_, h5 n hn⟩, ?_⟩
  · have := mem_lens hn; unfold smallL; omega
  · have := mem_lens hn; unfold smallL; omega
  · have := mem_lens hn; unfold fits; omega
  · unfold fits; unfold lens at *; omega
theorem treeOK_of {n : List (den NodeT)} (h : termsFit n) (h1 : lenI n ≤ 1000000) : treeOK n := ⟨h1, h⟩
theorem okT_tf {n : List (den NodeT)} (h : okT n) : termsFit n := fun x hx => (h.2.1 x hx).1
theorem norms_sum : ∀ (ps : List (List (den NodeT))), (∀ p ∈ ps, lenI (normF p) ≤ 4 * lenI p - 1 ∧ termsFit (normF p)) → lens (normsF ps) ≤ 4 * lens ps - lenI ps ∧ allTF (normsF ps) ∧ lenI (normsF ps) = lenI ps := by
  intro ps
  induction ps with
  | nil => intro _; refine ⟨Int.le_refl _, fun m hm => ?_, rfl⟩; cases hm
  | cons p ps ihp =>
    intro h
    have h1 := h p List.mem_cons_self
    have h2 := ihp fun q hq => h q (List.mem_cons_of_mem _ hq)
    simp only [normsF, List.map_cons] at h2 ⊢
    rw [lens_cons, lens_cons, len_cons, len_cons]
    refine ⟨by omega, fun m hm => ?_, by omega⟩
    rw [List.mem_cons] at hm
    rcases hm with rfl | hm
    · exact h1.2
    · exact h2.2.1 m hm
theorem andOK_of {l : List (List (den NodeT))} (h : allTF l) (h1 : lenI l ≤ 100000) (h2 : lens l ≤ 100000) : andOK l := by
  have g2 := nots_size h
  have g3 := or_size g2.2
  have hl : lenI (nots l) = lenI l := by simp [nots, lenI]
  exact ⟨by omega, fun m hm => treeOK_of (h m hm) (by have := mem_lens hm; omega), allOK_of g2.2 (by omega) (by omega), treeOK_of g3.2 (by omega)⟩
/-- The size of a core. -/
theorem norm_size : ∀ (k : Nat) (n : List (den NodeT)), n.length ≤ k → okT n → lenI (normF n) ≤ 4 * lenI n - 1 ∧ termsFit (normF n)
  | 0, n, hk, h => by
    have : n = [] := List.length_eq_zero_iff.1 (by omega)
    subst this
    exact absurd rfl (partsB_iff.1 h.1).1
  | k + 1, [], hk, h => absurd rfl (partsB_iff.1 h.1).1
  | k + 1, x :: l, hk, h => by
    have hsp := partsF_spec h.1
    have ih : ∀ p ∈ partsF (x :: l), lenI (normF p) ≤ 4 * lenI p - 1 ∧ termsFit (normF p) := fun p hp => by
      have := okT_part h hp
      exact norm_size k p (by omega) this.1
    have hS := norms_sum _ ih
    have hl : lens (partsF (x :: l)) = lenI l := by unfold lens; rw [hsp.1]
    rw [hl] at hS
    have hn := lenI_nn l
    have hcount := parts_le (x :: l)
    have hc0 := lenI_nn (partsF (x :: l))
    rw [normF_eq]
    obtain ⟨ps, hps⟩ : ∃ ps, normsF (partsF (x :: l)) = ps := ⟨_, rfl⟩
    rw [hps] at hS ⊢
    obtain ⟨s1, s2, s3⟩ := hS
    have htf := okT_tf h
    have g0 : lenI (at0 ps) ≤ lens ps ∧ termsFit (at0 ps) := by
      cases ps with
      | nil => exact ⟨Int.le_refl _, tf_nil⟩
      | cons p r => exact ⟨mem_lens List.mem_cons_self, s2 p List.mem_cons_self⟩
    have g1 : lenI (at0 ps) + lenI (at1 ps) ≤ lens ps ∧ termsFit (at1 ps) := by
      match ps with
      | [] => exact ⟨Int.le_refl _, tf_nil⟩
      | [p] => refine ⟨?_, tf_nil⟩; show lenI p + 0 ≤ _; rw [lens_cons, lens_nil]; exact Int.le_refl _
      | p :: q :: r =>
        have := lens_nn r
        exact ⟨by show lenI p + lenI q ≤ _; rw [lens_cons, lens_cons]; omega, s2 q (List.mem_cons_of_mem _ List.mem_cons_self)⟩
    have t0 := tf_nd 0
    have ln0 : lenI ([nd 0] : List (den NodeT)) = 1 := rfl
    obtain ⟨xo, xn, xf, xt, xr, rfl⟩ : ∃ (q1 q2 q3 q4 : Int) (q5 : List (den TermT) × Int), x = (q1, q2, q3, q4, q5) := ⟨_, _, _, _, _, rfl⟩
    unfold stepN
    dsimp only
    have hL : lenI ((xo, xn, xf, xt, xr) :: l) = lenI l + 1 := len_cons
    rw [hL] at hcount ⊢
    have cn : lenI ps = xn := by rw [s3]; exact hsp.2.1
    by_cases e3 : xo = 3
    · rw [if_pos e3]; have := not_size g0.2; exact ⟨by omega, this.2⟩
    rw [if_neg e3]
    by_cases e4 : xo = 4
    · rw [if_pos e4]; have := and_size s2; exact ⟨by omega, this.2⟩
    rw [if_neg e4]
    by_cases e5 : xo = 5
    · rw [if_pos e5]; have := or_size s2; exact ⟨by omega, this.2⟩
    rw [if_neg e5]
    by_cases e6 : xo = 6
    · rw [if_pos e6]
      have h1 := not_size g0.2
      have h2 : allTF [notF (at0 ps), at1 ps] := fun m hm => by
        simp only [List.mem_cons, List.not_mem_nil, or_false] at hm
        rcases hm with rfl | rfl
        · exact h1.2
        · exact g1.2
      have h3 := or_size h2
      rw [lens_cons, lens_cons, lens_nil] at h3
      exact ⟨by omega, h3.2⟩
    rw [if_neg e6]
    by_cases e7 : xo = 7
    · rw [if_pos e7]; have := prev_size g0.2; exact ⟨by omega, this.2⟩
    rw [if_neg e7]
    by_cases e8 : xo = 8
    · rw [if_pos e8]; have := since_size (fr := xf) (to := xt) t0 g0.2; exact ⟨by omega, this.2⟩
    rw [if_neg e8]
    by_cases e9 : xo = 9
    · rw [if_pos e9]
      have har := (h.2.1 _ List.mem_cons_self).2.1 (.inr (.inr (.inr e9)))
      have har' : xn = 1 := har
      have h1 := not_size g0.2
      have h2 := since_size (fr := xf) (to := xt) t0 h1.2
      have h3 := not_size h2.2
      exact ⟨by omega, h3.2⟩
    rw [if_neg e9]
    by_cases e10 : xo = 10
    · rw [if_pos e10]; have := since_size (fr := xf) (to := xt) g0.2 g1.2; exact ⟨by omega, this.2⟩
    rw [if_neg e10, hL]
    exact ⟨by omega, htf⟩
theorem norms_facts {n : List (den NodeT)} (h : okT n) : allTF (normsF (partsF n)) ∧ lens (normsF (partsF n)) ≤ 4 * lenI n ∧ lenI (normsF (partsF n)) = lenI (partsF n) := by
  have := norms_sum (partsF n) fun p hp => norm_size p.length p (Nat.le_refl _) (okT_part h hp).1
  have h1 := parts_lens n
  have h2 := lenI_nn (partsF n)
  exact ⟨this.2.1, by omega, this.2.2⟩
theorem one_tf (h : True) : treeOK [((0 : Int), (0 : Int), (0 : Int), (0 : Int), ([] : List (den TermT)), (0 : Int))] := treeOK_of (tf_nd 0) (by unfold lenI; simp)
def lt_normal (a b : Nat) : Prop := a < b
noncomputable def normalR (N : Nat) : List AV → OV := fun args => match args with | [.view [] (.prod (.int .i64) (.prod (.int .i64) (.prod (.int .i64) (.prod (.int .i64) (.prod (.list (.prod .str (.int .i64))) (.int .i64)))))) n] => some ([lt_normal (n.length) N, okT n], .view [] NodeT (normF n)) | _ => none
noncomputable def normalS : List AV → OV := fun args => match args with | [.view [] (.prod (.int .i64) (.prod (.int .i64) (.prod (.int .i64) (.prod (.int .i64) (.prod (.list (.prod .str (.int .i64))) (.int .i64)))))) n] => some ([okT n], .view [] NodeT (normF n)) | _ => none
noncomputable def fsR_normal (N : Nat) : FS := (40, pureN [.sl NodeT] (normalR N)) :: fs_cand
theorem fsROK_normal (N : Nat) (hN : SpecOK Try.prog 40 (fspecS (pureN [.sl NodeT] (normalR N)))) : FSOK Try.prog (fsR_normal N) := fsOK_cons hN fsOK_cand
abbrev X_normL := List (den NodeT) × List (den (.list NodeT)) × List (den (.list NodeT)) × Int × Int
def sh_normL : X_normL → St := fun x => match x with | (n, out, l, len, i) => ⟨setL (rep .bad 98) [(0, .view [] NodeT n), (9, .view [] (.list NodeT) l), (10, .int .i64 len), (11, .int .i64 i), (3, .own 0)], [.row 28 (.list NodeT) out []], [0, 1], [0, 1]⟩
def sx_normL : AExit → X_normL → St := fun _ => sh_normL
def nx_normL (σ : St) : X_normL := (gV NodeT σ 0, rV (.list NodeT) σ 0, gV (.list NodeT) σ 9, gI σ 10, gI σ 11)
def Pre_normL (N : Nat) : X_normL → Prop := fun x => match x with | (n, out, l, len, i) => i = 0 ∧ len = lenI l ∧ out = [] ∧ l = partsF n ∧ okT n ∧ lt_normal n.length (N + 1)
def E0_normL : X_normL → X_normL → Prop := fun x y => match x, y with | (n0, out0, l0, len0, i0), (n, out, l, len, i) => (n = n0 ∧ l = l0 ∧ len = len0) ∧ (out = normsF l)
def R_normL : X_normL → X_normL → Prop := fun x y => match x, y with | (n0, out0, l0, len0, i0), (n, out, l, len, i) => (n = n0 ∧ l = l0 ∧ len = len0) ∧ (False)
def D_normL : X_normL → LEnds X_normL := fun x => ⟨[(0, E0_normL x)], R_normL x⟩
noncomputable def S_normL (N : Nat) : Summ := summN sh_normL sx_normL nx_normL (Pre_normL N) D_normL
def Inv_normL : X_normL → X_normL → Prop := fun x y => match x, y with | (n0, out0, l0, len0, i0), (n, out, l, len, i) => (n = n0 ∧ l = l0 ∧ len = len0) ∧ ((0 ≤ i ∧ i ≤ len) ∧ lenI out ≤ i ∧ out ++ normsF (l.drop i.toNat) = normsF l)
def M_normL : X_normL → X_normL → Nat := fun x y => match x, y with | (n0, out0, l0, len0, i0), (n, out, l, len, i) => (len - i).toNat
theorem body_normL (N : Nat) (Inv : X_normL → Prop) (meas : X_normL → Nat) (nn : Nat) (EE0 RR : X_normL → Prop) (n : List (den NodeT)) (out : List (den (.list NodeT))) (l : List (den (.list NodeT))) (len : Int) (i : Int) : awp tab (fsR_normal N) (acall tab (fsR_normal N) specs_copiedS fns 100 20) [] 100 (loopAt Try.f40 3) (bodyN sh_normL sx_normL nx_normL Inv meas nn ⟨[(0, EE0)], RR⟩) (sh_normL (n, out, l, len, i)) =
  (ifB (ltB i len) (need (inI i (lenI l)) (need (lt_normal (List.length (nth NodeT.list l i)) N) (need (okT (nth NodeT.list l i)) (need (fitA (lenI out + 1)) (eqD n
    n (eqD l l (eqI len len (eqI (addW IntKind.i64 i 1) (addW IntKind.i64 i 1) (eqD (appL out (normF (nth NodeT.list l i) :: @List.nil (den NodeT.list))) (appL out (normF
    (nth NodeT.list l i) :: @List.nil (den NodeT.list))) (Inv (n, appL out (normF (nth NodeT.list l i) :: @List.nil (den NodeT.list)), l, len, addW IntKind.i64 i 1)
    ∧ meas (n, appL out (normF (nth NodeT.list l i) :: @List.nil (den NodeT.list)), l, len, addW IntKind.i64 i 1) < nn)))))))))) (eqD n n (eqD l l (eqI len len (eqI
    i i (eqD out out (EE0 (n, out, l, len, i)))))))) := by kernel_rfl
theorem body_normL_ok (N : Nat) (hN : SpecOK Try.prog 40 (fspecS (pureN [.sl NodeT] (normalR N)))) : ∀ x y, (Pre_normL N) x → Inv_normL x y → wfS (sh_normL y) → Hd (awp tab (fsR_normal N) (acall tab (fsR_normal N) specs_copiedS fns 100 20) [] 100 (loopAt Try.f40 3) (bodyN sh_normL sx_normL nx_normL (Inv_normL x) (M_normL x) (M_normL x y) (D_normL x)) (sh_normL y)) := by
  rintro ⟨n0, out0, l0, len0, i0⟩ ⟨n, out, l, len, i⟩ hp hI hw
  obtain ⟨⟨rfl, rfl, rfl⟩, hI⟩ := hI
  have hw_n := wfL_view hw 0 rfl
  have hw_out := wfR_row hw 0 rfl
  have hw_l := wfL_view hw 9 rfl
  have hw_len := wfL_int hw 10 rfl
  have hw_i := wfL_int hw 11 rfl
  have hp : i0 = 0 ∧ len = lenI l ∧ out0 = [] ∧ l = partsF n ∧ okT n ∧ lt_normal n.length (N + 1) := hp
  unfold D_normL
  rw [body_normL]
  refine ⟨?_⟩
  have hInv : ∀ (out : List (den (.list NodeT))) (i : Int), ((0 ≤ i ∧ i ≤ len) ∧ lenI out ≤ i ∧ out ++ normsF (l.drop i.toNat) = normsF l) → Inv_normL (n, out0, l, len, i0) (n, out, l, len, i) := fun _ _ h => ⟨⟨rfl, rfl, rfl⟩, h⟩
  generalize hIe : Inv_normL (n, out0, l, len, i0) = Inv at hInv ⊢
  have hMe : ∀ (out : List (den (.list NodeT))) (i : Int), M_normL (n, out0, l, len, i0) (n, out, l, len, i) = (len - i).toNat := fun _ _ => rfl
  generalize M_normL (n, out0, l, len, i0) = Me at hMe ⊢
  have hE0 : ∀ (out : List (den (.list NodeT))) (i : Int), (out = normsF l) → E0_normL (n, out0, l, len, i0) (n, out, l, len, i) := fun _ _ h => ⟨⟨rfl, rfl, rfl⟩, h⟩
  generalize E0_normL (n, out0, l, len, i0) = EE0 at hE0 ⊢
  have hR : ∀ (out : List (den (.list NodeT))) (i : Int), (False) → R_normL (n, out0, l, len, i0) (n, out, l, len, i) := fun _ _ h => ⟨⟨rfl, rfl, rfl⟩, h⟩
  generalize R_normL (n, out0, l, len, i0) = RR at hR ⊢
  obtain ⟨hi, ho, hI⟩ := hI
  obtain ⟨p1, rfl, p3, rfl, p5, p6⟩ := hp
  have hlen := wfT_len hw_l
  by_cases hlt : i < lenI (partsF n)
  · have ei : addW .i64 i 1 = i + 1 := addW64 (by omega) (by omega)
    have hin : inI i (lenI (partsF n)) := ⟨hi.1, hlt⟩
    have hmem := nth_mem (t := .list NodeT) hi.1 hlt
    rw [drop_nth (t := .list NodeT) hi.1 hlt] at hI
    obtain ⟨x, hx⟩ : ∃ x : List (den NodeT), nth (.list NodeT) (partsF n) i = x := ⟨_, rfl⟩
    simp only [hx] at hI hmem ⊢
    simp only [normsF, List.map_cons] at hI
    have hp := okT_part p5 hmem
    have hk : okT x := hp.1
    have hrk : lt_normal x.length N := by have := hp.2; unfold lt_normal at *; omega
    have hfit : fitA (lenI out + 1) := by
      have h1 := p5.2.2
      have h2 : lenI (partsF n) ≤ 140737488355328 := hlen
      unfold fitA
      have h3 := parts_le n
      omega
    simp only [ltB_t.2 hlt, hin, hrk, hk, hfit, ei, simpsL, implies_true, forall_const, if_true, if_false, reduceCtorEq]
    refine ⟨hInv _ _ ⟨⟨by omega, by omega⟩, by rw [len_snoc]; omega, ?_⟩, by simp only [hMe]; omega⟩
    rw [List.append_assoc]; exact hI
  · rw [drop_all (by omega)] at hI
    simp only [normsF, List.map_nil, List.append_nil] at hI
    simp only [ltB_f.2 (Int.not_lt.1 hlt), simpsL, implies_true, forall_const, if_true, if_false, reduceCtorEq]
    exact hE0 _ _ hI
theorem summ_normL (N : Nat) (hN : SpecOK Try.prog 40 (fspecS (pureN [.sl NodeT] (normalR N)))) : SummOK Try.prog (loopAt Try.f40 3) (S_normL N) :=
  summN_ok (L := []) (fuel := 100) tabOK (fsROK_normal N hN) (mkCall (fsROK_normal N hN) specsOK_copiedS fnsOK) (fun C => mkDraw (fsROK_normal N hN) (mkCall (fsROK_normal N hN) specsOK_copiedS fnsOK) C) loopsOK_nil Inv_normL M_normL
    (fun x hp hw => by
      obtain ⟨n, out, l, len, i⟩ := x
      have hp : i = 0 ∧ len = lenI l ∧ out = [] ∧ l = partsF n ∧ okT n ∧ lt_normal n.length (N + 1) := hp
      have hw_n := wfL_view hw 0 rfl
      have hw_out := wfR_row hw 0 rfl
      have hw_l := wfL_view hw 9 rfl
      have hw_len := wfL_int hw 10 rfl
      have hw_i := wfL_int hw 11 rfl
      obtain ⟨rfl, rfl, rfl, rfl, h⟩ := hp
      exact ⟨⟨rfl, rfl, rfl⟩, ⟨by omega, lenI_nn _⟩, by decide, rfl⟩)
    (body_normL_ok N hN)
noncomputable def fns_normal (N : Nat) : Fns := (40, Try.f40, [(3, (S_normL N))]) :: fns
theorem fn_normal (N : Nat) (hN : SpecOK Try.prog 40 (fspecS (pureN [.sl NodeT] (normalR N)))) : FnOK Try.prog 40 Try.f40 [(3, (S_normL N))] := fnOK_loops Try.func40 (fun vs w => Try.call40 vs w) (by kernel_rfl) fun k S h => by
  simp only [List.mem_cons, Prod.mk.injEq, List.not_mem_nil, or_false] at h
  obtain ⟨rfl, rfl⟩ := h
  exact (summ_normL N hN)
theorem fns_normalOK (N : Nat) (hN : SpecOK Try.prog 40 (fspecS (pureN [.sl NodeT] (normalR N)))) : FnsOK Try.prog (fns_normal N) := fnsOK_cons (fn_normal N hN) fnsOK
theorem normal_eq (N : Nat) (n : List (den NodeT)) : acall tab fs_cand specs_copiedS (fns_normal N) 100 20 40 [.view [] NodeT n] [] (fun o mm _ _ => resN (.sl NodeT) mm o = .ret (.view [] NodeT (normF n))) =
  (need (smallL n) (eqD n n (eqD (partsF n) (partsF n) (eqI (lenI (partsF n)) (lenI (partsF n)) (eqI 0 0 (eqD (@List.nil (den NodeT.list)) (@List.nil (den NodeT.list))
    (((0 : Int) = 0 ∧ lenI (partsF n) = lenI (partsF n) ∧ @List.nil (den NodeT.list) = @List.nil (den NodeT.list) ∧ partsF n = partsF n ∧ okT n ∧ lt_normal n.length
    N.succ) ∧ ((∀ (y : X_normL), (y.1 = n ∧ y.2.2.1 = partsF n ∧ y.2.2.2.1 = lenI (partsF n)) ∧ y.2.1 = normsF y.2.2.1 → need (inI 0 (lenI y.1)) (ifB (eqB (nth NodeT
    y.1 0).fst 3) (need (inI 0 (lenI y.2.1)) (need (inI 0 (lenI y.2.1)) (need (treeOK (nth NodeT.list y.2.1 0)) (AOut.ret (AV.view (@List.nil Nat) NodeT (notF (nth NodeT.list
    y.2.1 0))) = AOut.ret (AV.view (@List.nil Nat) NodeT (normF n)))))) (ifB (eqB (nth NodeT y.1 0).fst 4) (need (andOK y.2.1) (AOut.ret (AV.view (@List.nil Nat) NodeT
    (candF y.2.1)) = AOut.ret (AV.view (@List.nil Nat) NodeT (normF n)))) (ifB (eqB (nth NodeT y.1 0).fst 5) (need (allOK y.2.1) (AOut.ret (AV.view (@List.nil Nat) NodeT
    (corF y.2.1)) = AOut.ret (AV.view (@List.nil Nat) NodeT (normF n)))) (ifB (eqB (nth NodeT y.1 0).fst 6) (need (inI 0 (lenI y.2.1)) (need (inI 0 (lenI y.2.1)) (need
    (treeOK (nth NodeT.list y.2.1 0)) (need (inI 1 (lenI y.2.1)) (need (inI 1 (lenI y.2.1)) (need (allOK (notF (nth NodeT.list y.2.1 0) :: nth NodeT.list y.2.1 1 ::
    @List.nil (den NodeT.list))) (AOut.ret (AV.view (@List.nil Nat) NodeT (corF (notF (nth NodeT.list y.2.1 0) :: nth NodeT.list y.2.1 1 :: @List.nil (den NodeT.list))))
    = AOut.ret (AV.view (@List.nil Nat) NodeT (normF n))))))))) (ifB (eqB (nth NodeT y.1 0).fst 7) (need (inI 0 (lenI y.2.1)) (need (inI 0 (lenI y.2.1)) (need (treeOK
    (nth NodeT.list y.2.1 0)) (AOut.ret (AV.view (@List.nil Nat) NodeT (prevF (nth NodeT.list y.2.1 0))) = AOut.ret (AV.view (@List.nil Nat) NodeT (normF n)))))) (ifB
    (eqB (nth NodeT y.1 0).fst 8) (need (inI 0 (lenI y.2.1)) (need (inI 0 (lenI y.2.1)) (need (treeOK ((0, 0, 0, 0, @List.nil (den TermT), 0) :: @List.nil (den NodeT)))
    (need (treeOK (nth NodeT.list y.2.1 0)) (AOut.ret (AV.view (@List.nil Nat) NodeT (sinceF (nth NodeT y.1 0).snd.snd.fst (nth NodeT y.1 0).snd.snd.snd.fst ((0, 0,
    0, 0, @List.nil (den TermT), 0) :: @List.nil (den NodeT)) (nth NodeT.list y.2.1 0))) = AOut.ret (AV.view (@List.nil Nat) NodeT (normF n))))))) (ifB (eqB (nth NodeT
    y.1 0).fst 9) (need (inI 0 (lenI y.2.1)) (need (inI 0 (lenI y.2.1)) (need (treeOK (nth NodeT.list y.2.1 0)) (need (treeOK ((0, 0, 0, 0, @List.nil (den TermT), 0)
    :: @List.nil (den NodeT))) (need (treeOK (notF (nth NodeT.list y.2.1 0))) (need (treeOK (sinceF (nth NodeT y.1 0).snd.snd.fst (nth NodeT y.1 0).snd.snd.snd.fst ((0,
    0, 0, 0, @List.nil (den TermT), 0) :: @List.nil (den NodeT)) (notF (nth NodeT.list y.2.1 0)))) (AOut.ret (AV.view (@List.nil Nat) NodeT (notF (sinceF (nth NodeT
    y.1 0).snd.snd.fst (nth NodeT y.1 0).snd.snd.snd.fst ((0, 0, 0, 0, @List.nil (den TermT), 0) :: @List.nil (den NodeT)) (notF (nth NodeT.list y.2.1 0))))) = AOut.ret
    (AV.view (@List.nil Nat) NodeT (normF n))))))))) (ifB (eqB (nth NodeT y.1 0).fst 10) (need (inI 0 (lenI y.2.1)) (need (inI 0 (lenI y.2.1)) (need (inI 1 (lenI y.2.1))
    (need (inI 1 (lenI y.2.1)) (need (treeOK (nth NodeT.list y.2.1 0)) (need (treeOK (nth NodeT.list y.2.1 1)) (AOut.ret (AV.view (@List.nil Nat) NodeT (sinceF (nth
    NodeT y.1 0).snd.snd.fst (nth NodeT y.1 0).snd.snd.snd.fst (nth NodeT.list y.2.1 0) (nth NodeT.list y.2.1 1))) = AOut.ret (AV.view (@List.nil Nat) NodeT (normF n)))))))))
    (need (fits y.1) (need (termsFit y.1) (AOut.ret (AV.view (@List.nil Nat) NodeT y.1) = AOut.ret (AV.view (@List.nil Nat) NodeT (normF n)))))))))))))) ∧ True) ∧ ∀
    (y : X_normL), (y.1 = n ∧ y.2.2.1 = partsF n ∧ y.2.2.2.1 = lenI (partsF n)) ∧ False → AOut.ret AV.bad = AOut.ret (AV.view (@List.nil Nat) NodeT (normF n))))))))) := by kernel_rfl
theorem normal_step (N : Nat) (hN : SpecOK Try.prog 40 (fspecS (pureN [.sl NodeT] (normalR N)))) : SpecOK Try.prog 40 (fspecS (pureN [.sl NodeT] (normalR (N + 1)))) := pureN_ok (mkCall fsOK_cand specsOK_copiedS (fns_normalOK N hN)) (.sl NodeT) (fun vs w => Try.call40 vs w) fun args ps v h hp hw => by
  unfold normalR at h
  split at h
  · cases h
    rename_i n
    rw [normal_eq]
    refine ⟨?_⟩
    simp only [allP_cons, allP_nil, and_true] at hp
    simp only [wfAL, wfA, wfS, wfM, wfB, and_true, true_and, wfT_int, wfT_str, wfT_bool, wfT_prod] at hw
    obtain ⟨hrk, hok⟩ := hp
    simp only [simpsL, implies_true, forall_const, if_true, if_false, reduceCtorEq]
    have hsm : smallL n := by have := hok.2.2; unfold smallL; omega
    refine ⟨hsm, ⟨hok, hrk⟩, ?_⟩
    rintro ⟨y1, y2, y3, y4, y5⟩ ⟨⟨e1, e2, e3⟩, e4⟩
    dsimp only at e1 e2 e3 e4 ⊢
    obtain ⟨y2', rfl⟩ : ∃ ps : List (List (den NodeT)), y2 = ps := ⟨y2, rfl⟩
    rw [e2] at e4
    have hf := norms_facts hok
    have hstep := normF_eq n
    rw [e1]
    rw [← e4] at hf hstep
    cases n with
    | nil => exact absurd rfl (partsB_iff.1 hok.1).1
    | cons x l =>
    have hsp := partsF_spec hok.1
    have hx0 : nth NodeT (x :: l) 0 = x := rfl
    have ha0 : nth (.list NodeT) y2 0 = at0 y2 := rfl
    have ha1 : nth (.list NodeT) y2 1 = at1 y2 := rfl
    rw [hx0, ha0, ha1]
    have har := (hok.2.1 _ List.mem_cons_self).2
    obtain ⟨xo, xn, xf, xt, xr, rfl⟩ : ∃ (q1 q2 q3 q4 : Int) (q5 : List (den TermT) × Int), x = (q1, q2, q3, q4, q5) := ⟨_, _, _, _, _, rfl⟩
    have har1 : xo = 3 ∨ xo = 7 ∨ xo = 8 ∨ xo = 9 → xn = 1 := har.1
    have har2 : xo = 6 ∨ xo = 10 → xn = 2 := har.2
    have hcn : lenI y2 = xn := by rw [hf.2.2]; exact hsp.2.1
    have hl300 : lenI ((xo, xn, xf, xt, xr) :: l) ≤ 300 := hok.2.2
    have hpl := parts_le ((xo, xn, xf, xt, xr) :: l)
    obtain ⟨f1, f2, f3⟩ := hf
    have m0 : termsFit (at0 y2) ∧ lenI (at0 y2) ≤ 1200 := by
      cases y2 with
      | nil => exact ⟨tf_nil, by show (0 : Int) ≤ _; omega⟩
      | cons p r => have := mem_lens (n := p) (l := p :: r) List.mem_cons_self; exact ⟨f1 p List.mem_cons_self, by show lenI p ≤ _; omega⟩
    have m1 : termsFit (at1 y2) ∧ lenI (at1 y2) ≤ 1200 := by
      match y2 with
      | [] => exact ⟨tf_nil, by show (0 : Int) ≤ _; omega⟩
      | [p] => exact ⟨tf_nil, by show (0 : Int) ≤ _; omega⟩
      | p :: q :: r =>
        have hq : q ∈ p :: q :: r := List.mem_cons_of_mem _ List.mem_cons_self
        have := mem_lens hq; exact ⟨f1 q hq, by show lenI q ≤ _; omega⟩
    have t0 : treeOK (at0 y2) := treeOK_of m0.1 (by omega)
    have t1 : treeOK (at1 y2) := treeOK_of m1.1 (by omega)
    have tn := tf_nd 0
    have s1 := not_size m0.1
    have one := one_tf trivial
    have R : ∀ z, stepN ((xo, xn, xf, xt, xr) :: l) y2 = z → AOut.ret (AV.view [] NodeT z) = AOut.ret (AV.view [] NodeT (normF ((xo, xn, xf, xt, xr) :: l))) := fun z h => by rw [hstep, h]
    have hnn := lenI_nn l
    have b00 : (0 : Int) ≤ 0 := Int.le_refl _
    have b01 : (0 : Int) ≤ 1 := by decide
    unfold stepN at R
    dsimp only at R ⊢
    refine ⟨⟨b00, by rw [len_cons]; omega⟩, fun h3 => ?_, fun h3 => ⟨fun h4 => ?_, fun h4 => ⟨fun h5 => ?_, fun h5 => ⟨fun h6 => ?_, fun h6 => ⟨fun h7 => ?_, fun h7 => ⟨fun h8 => ?_, fun h8 => ⟨fun h9 => ?_, fun h9 => ⟨fun h10 => ?_, fun h10 => ?_⟩⟩⟩⟩⟩⟩⟩⟩
    · have i0 : 0 < lenI y2 := by have := har1 (.inl h3); omega
      exact ⟨⟨b00, i0⟩, ⟨b00, i0⟩, t0, R _ (if_pos h3)⟩
    · have g1 : lenI y2 ≤ 1000000 := by omega
      have g2 := nots_size f1
      have g3 := or_size g2.2
      have g4 : allOK (nots y2) := allOK_of g2.2 (by simp only [nots, lenI, List.length_map] at *; omega) (by omega)
      have gm : ∀ m : List (den NodeT), m ∈ y2 → treeOK m := fun m hm => treeOK_of (f1 m hm) (by have h9 := mem_lens (n := m) (l := y2) hm; omega)
      exact ⟨⟨g1, gm, g4, treeOK_of g3.2 (by omega)⟩, R _ (by rw [if_neg h3, if_pos h4])⟩
    · exact ⟨allOK_of f1 (by omega) (by omega), R _ (by rw [if_neg h3, if_neg h4, if_pos h5])⟩
    · have i0 : 0 < lenI y2 := by have := har2 (.inl h6); omega
      have i1 : 1 < lenI y2 := by have := har2 (.inl h6); omega
      have g1 : allTF [notF (at0 y2), at1 y2] := fun m hm => by
        simp only [List.mem_cons, List.not_mem_nil, or_false] at hm
        rcases hm with rfl | rfl
        · exact s1.2
        · exact m1.1
      have g2 : allOK [notF (at0 y2), at1 y2] := allOK_of g1 (by unfold lenI; simp) (by rw [lens_cons, lens_cons, lens_nil]; omega)
      have g3 := R (corF [notF (at0 y2), at1 y2]) (by rw [if_neg h3, if_neg h4, if_neg h5, if_pos h6])
      repeat' (first | exact ⟨b00, i0⟩ | exact ⟨b01, i1⟩ | exact t0 | exact g2 | exact g3 | refine ⟨?_, ?_⟩)
    · have i0 : 0 < lenI y2 := by have := har1 (.inr (.inl h7)); omega
      exact ⟨⟨b00, i0⟩, ⟨b00, i0⟩, t0, R _ (by rw [if_neg h3, if_neg h4, if_neg h5, if_neg h6, if_pos h7])⟩
    · have i0 : 0 < lenI y2 := by have := har1 (.inr (.inr (.inl h8))); omega
      exact ⟨⟨b00, i0⟩, ⟨b00, i0⟩, one, t0, R _ (by rw [if_neg h3, if_neg h4, if_neg h5, if_neg h6, if_neg h7, if_pos h8]; rfl)⟩
    · have i0 : 0 < lenI y2 := by have := har1 (.inr (.inr (.inr h9))); omega
      have s2 := since_size (fr := xf) (to := xt) tn s1.2
      have ln0 : lenI ([nd 0] : List (den NodeT)) = 1 := rfl
      have g9 : treeOK (sinceF xf xt [nd 0] (notF (at0 y2))) := treeOK_of s2.2 (by omega)
      exact ⟨⟨b00, i0⟩, ⟨b00, i0⟩, t0, one, treeOK_of s1.2 (by omega), g9, R _ (by rw [if_neg h3, if_neg h4, if_neg h5, if_neg h6, if_neg h7, if_neg h8, if_pos h9]; rfl)⟩
    · have i0 : 0 < lenI y2 := by have := har2 (.inr h10); omega
      have i1 : 1 < lenI y2 := by have := har2 (.inr h10); omega
      exact ⟨⟨b00, i0⟩, ⟨b00, i0⟩, ⟨b01, i1⟩, ⟨b01, i1⟩, t0, t1, R _ (by rw [if_neg h3, if_neg h4, if_neg h5, if_neg h6, if_neg h7, if_neg h8, if_neg h9, if_pos h10])⟩
    · refine ⟨fits_small (by omega), okT_tf hok, R _ (by rw [if_neg h3, if_neg h4, if_neg h5, if_neg h6, if_neg h7, if_neg h8, if_neg h9, if_neg h10])⟩
  · cases h
theorem normal_all : ∀ N : Nat, SpecOK Try.prog 40 (fspecS (pureN [.sl NodeT] (normalR N)))
  | 0 => pureN_ok (mkCall fsOK_cand specsOK_copiedS fnsOK) (.sl NodeT) (fun vs w => Try.call40 vs w) fun args ps v h hp hw => by
    unfold normalR at h
    split at h
    · cases h
      simp only [allP_cons, allP_nil, and_true] at hp
      exact absurd hp.1 (Nat.not_lt_zero _)
    · cases h
  | N + 1 => normal_step N (normal_all N)
theorem normal_ok : SpecOK Try.prog 40 (fspecS (pureN [.sl NodeT] normalS)) := recN_ok normal_all fun args ps v h => by
  unfold normalS at h
  split at h
  · cases h
    exact ⟨_, _, rfl, fun hp => allP_cons.2 ⟨Nat.lt_succ_self _, hp⟩⟩
  · cases h
noncomputable def FF_normal : FSpec := pureN [.sl NodeT] normalS
theorem FFok_normal : SpecOK Try.prog 40 (fspecS FF_normal) := normal_ok
noncomputable def fs_normal : FS := (40, FF_normal) :: fs_cand
theorem fsOK_normal : FSOK Try.prog fs_normal := fsOK_cons FFok_normal fsOK_cand
def normOf (n : List (den NodeT)) : List (den NodeT) := if validF n = true ∧ rangesF n = true ∧ lenI (normF n) ≤ 600 then normF n else []
def normErr (n : List (den NodeT)) : Int := if validF n = false then 31 else if rangesF n = false then 42 else if 600 < lenI (normF n) then 2 else 0
theorem rightF_facts {op nn fr to num : Int} {ts : List (den TermT)} (h : rightF op nn fr to ts num = true) : fits ts ∧ (op = 3 ∨ op = 7 ∨ op = 8 ∨ op = 9 → nn = 1) ∧ (op = 6 ∨ op = 10 → nn = 2) := by
  simp only [rightF, aloneF, Bool.and_eq_true, Bool.or_eq_true, decide_eq_true_eq] at h
  obtain ⟨⟨⟨⟨⟨⟨⟨⟨⟨a1, a2⟩, a3⟩, a4⟩, a5⟩, b1⟩, b2⟩, b3⟩, b4⟩, b5⟩ := h
  refine ⟨?_, fun h => ?_, fun h => ?_⟩
  · unfold fits
    rcases b5 with h | ⟨⟨⟨_, h⟩, _⟩, _⟩
    · rcases a4 with h2 | ⟨h2, _⟩
      · exact absurd h2 h
      · omega
    · omega
  · unfold leastF at a2
    unfold mostF at a5
    rw [if_pos h] at a2
    rw [if_pos h] at a5
    omega
  · unfold leastF at a2
    unfold mostF at a5
    have h1 : ¬ (op = 3 ∨ op = 7 ∨ op = 8 ∨ op = 9) := by omega
    rw [if_neg h1] at a2 a5
    rw [if_pos (by omega)] at a2
    rw [if_neg (by omega), if_pos h] at a5
    omega
theorem okT_valid {n : List (den NodeT)} (h : validF n = true) : okT n := by
  simp only [validF, Bool.and_eq_true, decide_eq_true_eq, Bool.not_eq_true', List.any_eq_false] at h
  obtain ⟨⟨⟨⟨h1, h2⟩, h3⟩, h4⟩, h5⟩ := h
  refine ⟨by simp only [partsB, Bool.and_eq_true, decide_eq_true_eq]; exact ⟨h4, h1⟩, fun x hx => ?_, h2⟩
  have := h3 x hx
  simp only [nrightF, notB, Bool.not_eq_true, Bool.not_eq_false'] at this
  have := rightF_facts this
  exact ⟨this.1, this.2.1, this.2.2⟩
noncomputable def normS : List AV → OV := fun args => match args with | [.view [] (.prod (.int .i64) (.prod (.int .i64) (.prod (.int .i64) (.prod (.int .i64) (.prod (.list (.prod .str (.int .i64))) (.int .i64)))))) n] => some ([], .tup [.view [] NodeT (normOf n), .int .i64 (normErr n)]) | _ => none
theorem norm_eq (n : List (den NodeT)) : acall tab fs_normal specs_copiedS fns 100 20 21 [.view [] NodeT n] [] (fun o mm _ _ => resN (.ag [.sl NodeT, .any]) mm o = .ret (.tup [.view [] NodeT (normOf n), .int .i64 (normErr n)])) =
  (ifB (notB (validF n)) (AOut.ret (AV.tup (AV.view (@List.nil Nat) NodeT (@List.nil (den NodeT)) :: AV.int IntKind.i64 31 :: @List.nil AV)) = AOut.ret (AV.tup (AV.view
    (@List.nil Nat) NodeT (normOf n) :: AV.int IntKind.i64 (normErr n) :: @List.nil AV))) (ifB (notB (rangesF n)) (AOut.ret (AV.tup (AV.view (@List.nil Nat) NodeT (@List.nil
    (den NodeT)) :: AV.int IntKind.i64 42 :: @List.nil AV)) = AOut.ret (AV.tup (AV.view (@List.nil Nat) NodeT (normOf n) :: AV.int IntKind.i64 (normErr n) :: @List.nil
    AV))) (need (okT n) (ifB (ltB 600 (lenI (normF n))) (AOut.ret (AV.tup (AV.view (@List.nil Nat) NodeT (@List.nil (den NodeT)) :: AV.int IntKind.i64 2 :: @List.nil
    AV)) = AOut.ret (AV.tup (AV.view (@List.nil Nat) NodeT (normOf n) :: AV.int IntKind.i64 (normErr n) :: @List.nil AV))) (AOut.ret (AV.tup (AV.view (@List.nil Nat)
    NodeT (normF n) :: AV.int IntKind.i64 0 :: @List.nil AV)) = AOut.ret (AV.tup (AV.view (@List.nil Nat) NodeT (normOf n) :: AV.int IntKind.i64 (normErr n) :: @List.nil
    AV))))))) := by kernel_rfl
theorem norm_ok : SpecOK Try.prog 21 (fspecS (pureN [.sl NodeT] normS)) := pureN_ok (mkCall fsOK_normal specsOK_copiedS fnsOK) (.ag [.sl NodeT, .any]) (fun vs w => Try.call21 vs w) fun args ps v h hp hw => by
  unfold normS at h
  split at h
  · cases h
    rename_i n
    rw [norm_eq]
    refine ⟨?_⟩
    simp only [allP_cons, allP_nil, and_true] at hp
    simp only [wfAL, wfA, wfS, wfM, wfB, and_true, true_and, wfT_int, wfT_str, wfT_bool, wfT_prod] at hw
    simp only [simpsL, implies_true, forall_const, if_true, if_false, reduceCtorEq]
    refine ⟨fun h => ?_, fun h => ⟨fun h2 => ?_, fun h2 => ⟨okT_valid h, fun h3 => ?_, fun h3 => ?_⟩⟩⟩
    · have e1 : normOf n = [] := by unfold normOf; rw [if_neg (by simp [h])]
      have e2 : normErr n = 31 := by unfold normErr; rw [if_pos h]
      rw [e1, e2]
    · have e1 : normOf n = [] := by unfold normOf; rw [if_neg (by simp [h2])]
      have e2 : normErr n = 42 := by unfold normErr; rw [if_neg (by simp [h]), if_pos h2]
      rw [e1, e2]
    · have e1 : normOf n = [] := by unfold normOf; rw [if_neg (by rintro ⟨_, _, h4⟩; omega)]
      have e2 : normErr n = 2 := by unfold normErr; rw [if_neg (by simp [h]), if_neg (by simp [h2]), if_pos h3]
      rw [e1, e2]
    · have e1 : normOf n = normF n := by unfold normOf; rw [if_pos ⟨h, h2, h3⟩]
      have e2 : normErr n = 0 := by unfold normErr; rw [if_neg (by simp [h]), if_neg (by simp [h2]), if_neg (by omega)]
      rw [e1, e2]
  · cases h
noncomputable def FF_norm : FSpec := pureN [.sl NodeT] normS
theorem FFok_norm : SpecOK Try.prog 21 (fspecS FF_norm) := norm_ok
noncomputable def fs_norm : FS := (21, FF_norm) :: fs_normal
theorem fsOK_norm : FSOK Try.prog fs_norm := fsOK_cons FFok_norm fsOK_normal
end Go.Proofs.Ytmdjpohmbkodeaa.Sx

