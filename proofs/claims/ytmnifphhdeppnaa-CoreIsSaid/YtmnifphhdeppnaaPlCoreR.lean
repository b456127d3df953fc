/- Formulas in which no part says nothing: plain laws. -/
import Derived.Test.YtmnifphhdeppnaaPlCoreQ
namespace Go.Proofs.Ytmnifphhdeppnaa.Sx
open Go.RowKit
set_option maxRecDepth 100000
set_option linter.unusedVariables false
set_option linter.unusedSimpArgs false
def headOp : List (den NodeT) → Int
  | [] => -1
  | x :: _ => x.1
def childOK (op c : Int) : Prop := (op = 3 → c ≠ 3 ∧ c ≠ 0 ∧ c ≠ 1) ∧ (op = 5 → c ≠ 5 ∧ c ≠ 0 ∧ c ≠ 1) ∧ (op = 7 → c ≠ 1)
def goodG : Nat → List (den NodeT) → Prop
  | 0, _ => True
  | k + 1, n => ∀ p ∈ partsF n, childOK (headOp n) (headOp p) ∧ goodG k p
def good (n : List (den NodeT)) : Prop := ∀ k, goodG k n
theorem good_part {n p : List (den NodeT)} (h : good n) (hp : p ∈ partsF n) : childOK (headOp n) (headOp p) ∧ good p :=
  ⟨(h 1 p hp).1, fun k => (h (k + 1) p hp).2⟩
theorem good_of {n : List (den NodeT)} (h : ∀ p ∈ partsF n, childOK (headOp n) (headOp p) ∧ good p) : good n
  | 0 => trivial
  | k + 1 => fun p hp => ⟨(h p hp).1, (h p hp).2 k⟩
def coreOK (n : List (den NodeT)) : Prop := isCoreF n = true ∧ good n
theorem core_of {n : List (den NodeT)} (hB : partsB n = true) (h : ∀ x ∈ n, idxFew_p x = false) : isCoreF n = true := by
  simp only [isCoreF, Bool.and_eq_true, Bool.not_eq_true', List.any_eq_false]
  exact ⟨hB, fun x hx => by rw [h x hx]; simp⟩
theorem core_few {n : List (den NodeT)} (h : isCoreF n = true) : ∀ x ∈ n, idxFew_p x = false := by
  simp only [isCoreF, Bool.and_eq_true, Bool.not_eq_true', List.any_eq_false] at h
  exact fun x hx => by simpa using h.2 x hx
theorem coreOK_part {n p : List (den NodeT)} (h : coreOK n) (hp : p ∈ partsF n) : coreOK p ∧ childOK (headOp n) (headOp p) := by
  have hm := partsF_mem hp
  have hg := good_part h.2 hp
  exact ⟨⟨core_of hm.2.2 fun x hx => core_few h.1 x (hm.1 x hx), hg.2⟩, hg.1⟩
theorem headOp_is {n : List (den NodeT)} {k : Int} (hk : k ≠ -1) : isOpF n k = decide (headOp n = k) := by
  cases n with
  | nil => exact (decide_eq_false (fun h => hk h.symm)).symm
  | cons x l => rfl
theorem coreOK_nd {k : Int} (hk : k = 0 ∨ k = 1) : coreOK [nd k] := by
  rcases hk with rfl | rfl
  · refine ⟨by decide, good_of fun p hp => ?_⟩
    have : partsF [nd 0] = [] := by decide
    rw [this] at hp; cases hp
  · refine ⟨by decide, good_of fun p hp => ?_⟩
    have : partsF [nd 1] = [] := by decide
    rw [this] at hp; cases hp
theorem coreOK_make {op fr to : Int} {l : List (List (den NodeT))} (h : ∀ p ∈ l, coreOK p ∧ childOK op (headOp p)) (hf : fewF op (lenI l) fr to [] 0 = true) : coreOK (makeF op fr to [] 0 l) := by
  have hp := parts_make (op := op) (fr := fr) (to := to) (f := l) fun p hp => core_parts (h p hp).1.1
  refine ⟨core_of hp.1 fun x hx => ?_, good_of fun p hm => ?_⟩
  · unfold makeF at hx
    rw [List.mem_cons] at hx
    rcases hx with rfl | hx
    · unfold idxFew_p notB; dsimp only; rw [hf]; rfl
    · obtain ⟨p, hpl, hxp⟩ := List.mem_flatten.1 hx
      exact core_few (h p hpl).1.1 x hxp
  · rw [hp.2] at hm
    exact ⟨(h p hm).2, (h p hm).1.2⟩
theorem few_3 : fewF 3 1 0 0 [] 0 = true := by decide
theorem few_7 : fewF 7 1 0 0 [] 0 = true := by decide
theorem few_5 {n : Int} (h : 2 ≤ n) : fewF 5 n 0 0 [] 0 = true := by
  simp only [fewF, rightF, aloneF, Bool.and_eq_true, Bool.or_eq_true, decide_eq_true_eq]
  have b1 : leastF 5 = 2 := rfl
  have b3 : opOK 5 = true := rfl
  have b4 : lenI ([] : List (den TermT)) = 0 := rfl
  rw [b1, b3, b4]
  simp
  exact h
theorem few_10 {fr to : Int} (h0 : 0 ≤ fr ∧ fr ≤ 2147483647) (h1 : to ≤ 2147483647 ∧ (0 ≤ to ∨ to = -1)) (h2 : fr ≤ to ∨ to = -1) : fewF 10 2 fr to [] 0 = true := by
  simp only [fewF, rightF, aloneF, Bool.and_eq_true, Bool.or_eq_true, decide_eq_true_eq]
  have b1 : leastF 10 = 2 := rfl
  have b2 : mostF 10 = 2 := rfl
  have b3 : opOK 10 = true := rfl
  have b4 : lenI ([] : List (den TermT)) = 0 := rfl
  have b5 : timedF 10 = true := rfl
  rw [b1, b2, b3, b4, b5]
  simp
  omega
theorem core_not_parts {x : den NodeT} {l : List (den NodeT)} (h : isCoreF (x :: l) = true) (h3 : isOpF (x :: l) 3 = true) : l ∈ partsF (x :: l) := by
  have hc := core_not h h3
  have hs := partsF_spec (core_parts h)
  rw [hc.1] at hs ⊢
  have hlen : lenI (partsF ((3, 1, 0, 0, [], 0) :: l)) = 1 := hs.2.1
  cases hps : partsF ((3, 1, 0, 0, [], 0) :: l) with
  | nil => rw [hps] at hlen; simp [lenI] at hlen
  | cons p r =>
    rw [hps] at hlen hs
    have hr : r = [] := len_zero.1 (by rw [len_cons] at hlen; omega)
    subst hr
    have hf := hs.1
    rw [List.flatten_cons, List.flatten_nil, List.append_nil] at hf
    rw [hf]; exact List.mem_cons_self
theorem isOp_false {n : List (den NodeT)} {k : Int} (hk : k ≠ -1) (h : isOpF n k = false) : headOp n ≠ k := by
  rw [headOp_is hk] at h; exact of_decide_eq_false h
theorem coreOK_not {n : List (den NodeT)} (h : coreOK n) : coreOK (notF n) := by
  cases h0 : isOpF n 0 with
  | true => have : notF n = [nd 1] := by unfold notF; rw [h0]; rfl
            rw [this]; exact coreOK_nd (.inr rfl)
  | false =>
    cases h1 : isOpF n 1 with
    | true => have : notF n = [nd 0] := by unfold notF; rw [h0, h1]; rfl
              rw [this]; exact coreOK_nd (.inl rfl)
    | false =>
      cases h3 : isOpF n 3 with
      | true =>
        have e : notF n = n.drop 1 := by unfold notF; rw [h0, h1, h3]; rfl
        rw [e]
        cases n with
        | nil => cases h3
        | cons x l => exact (coreOK_part h (core_not_parts h.1 h3)).1
      | false =>
        have e : notF n = makeF 3 0 0 [] 0 [n] := by unfold notF; rw [h0, h1, h3]; rfl
        rw [e]
        refine coreOK_make (fun p hp => ?_) few_3
        rw [List.mem_singleton] at hp
        subst hp
        exact ⟨h, ⟨fun _ => ⟨isOp_false (by decide) h3, isOp_false (by decide) h0, isOp_false (by decide) h1⟩, fun hc => absurd hc (by decide), fun hc => absurd hc (by decide)⟩⟩
theorem coreOK_prev {n : List (den NodeT)} (h : coreOK n) : coreOK (prevF n) := by
  cases h1 : isOpF n 1 with
  | true => have : prevF n = n := by unfold prevF; rw [h1]; rfl
            rw [this]; exact h
  | false =>
    have : prevF n = makeF 7 0 0 [] 0 [n] := by unfold prevF; rw [h1]; rfl
    rw [this]
    refine coreOK_make (fun p hp => ?_) few_7
    rw [List.mem_singleton] at hp
    subst hp
    exact ⟨h, ⟨fun hc => absurd hc (by decide), fun hc => absurd hc (by decide), fun _ => isOp_false (by decide) h1⟩⟩
theorem coreOK_since {fr to : Int} {p q : List (den NodeT)} (hp : coreOK p) (hq : coreOK q) (h0 : 0 ≤ fr ∧ fr ≤ 2147483647) (h1 : to ≤ 2147483647 ∧ (0 ≤ to ∨ to = -1)) : coreOK (sinceF fr to p q) := by
  unfold sinceF
  split
  · exact coreOK_nd (.inr rfl)
  · rename_i hc
    split
    · exact hq
    · split
      · exact hq
      · split
        · exact coreOK_nd (.inr rfl)
        · refine coreOK_make (fun m hm => ?_) (few_10 h0 h1 ?_)
          · simp only [List.mem_cons, List.not_mem_nil, or_false] at hm
            have ck : ∀ c, childOK 10 c := fun c => ⟨fun h => absurd h (by decide), fun h => absurd h (by decide), fun h => absurd h (by decide)⟩
            rcases hm with rfl | rfl
            · exact ⟨hp, ck _⟩
            · exact ⟨hq, ck _⟩
          · by_cases h2 : to = -1
            · exact .inr h2
            · exact .inl (Int.not_lt.1 fun h3 => hc (.inr ⟨h2, h3⟩))
theorem coreOK_flat {l : List (List (den NodeT))} (h : ∀ n ∈ l, coreOK n) : ∀ m ∈ flatF l, coreOK m ∧ headOp m ≠ 5 ∧ headOp m ≠ 1 := by
  intro m hm
  have h1 := isOp_false (by decide) ((flat_nodup l).2 m hm)
  rcases (ded_size (allF l) []).2 m hm with h2 | h2
  · cases h2
  · unfold allF at h2
    rw [List.mem_flatMap] at h2
    obtain ⟨n, hn, hm2⟩ := h2
    split at hm2
    · rename_i h5
      have hc := coreOK_part (h n hn) hm2
      have h5' : headOp n = 5 := by rw [headOp_is (by decide)] at h5; exact of_decide_eq_true h5
      exact ⟨hc.1, (hc.2.2.1 h5').1, h1⟩
    · rename_i h5
      rw [List.mem_singleton] at hm2
      subst hm2
      exact ⟨h m hn, isOp_false (by decide) (by simpa using h5), h1⟩
theorem coreOK_or {l : List (List (den NodeT))} (h : ∀ n ∈ l, coreOK n) : coreOK (corF l) := by
  have hf := coreOK_flat h
  have ho : corF l = orFl (flatF l) := rfl
  rw [ho]
  generalize flatF l = f at hf
  cases hy : saysYes f with
  | true => rw [yes_in hy]; exact coreOK_nd (.inl rfl)
  | false =>
    match f with
    | [] => exact coreOK_nd (.inr rfl)
    | [n] =>
      unfold orFl
      rw [if_neg (by rw [hy]; simp)]
      exact (hf n List.mem_cons_self).1
    | n :: m :: r =>
      have hl : 2 ≤ lenI (n :: m :: r) := by have := lenI_nn r; rw [len_cons, len_cons]; omega
      rw [orFl_two hy hl]
      refine coreOK_make (fun p hp => ?_) (few_5 hl)
      have hc := hf p hp
      have h0 : headOp p ≠ 0 := by
        refine isOp_false (by decide) ?_
        cases h0 : isOpF p 0 with
        | false => rfl
        | true => rw [yes_of hp (.inl h0)] at hy; cases hy
      exact ⟨hc.1, ⟨fun hc => absurd hc (by decide), fun _ => ⟨hc.2.1, h0, hc.2.2⟩, fun hc => absurd hc (by decide)⟩⟩
theorem coreOK_and {l : List (List (den NodeT))} (h : ∀ n ∈ l, coreOK n) : coreOK (candF l) := by
  refine coreOK_not (coreOK_or fun m hm => ?_)
  unfold nots at hm
  rw [List.mem_map] at hm
  obtain ⟨n, hn, rfl⟩ := hm
  exact coreOK_not (h n hn)
def rightB (x : den NodeT) : Prop := rightF x.1 x.2.1 x.2.2.1 x.2.2.2.1 x.2.2.2.2.1 x.2.2.2.2.2 = true
theorem coreOK_norm : ∀ (k : Nat) (n : List (den NodeT)), n.length ≤ k → okT n → (∀ x ∈ n, rightB x) → coreOK (normF n)
  | 0, n, hk, h, _ => by
    have : n = [] := List.length_eq_zero_iff.1 (by omega)
    subst this
    exact absurd rfl (partsB_iff.1 h.1).1
  | k + 1, [], hk, h, _ => absurd rfl (partsB_iff.1 h.1).1
  | k + 1, x :: l, hk, h, hr => by
    have hsp := partsF_spec h.1
    have ih : ∀ p ∈ partsF (x :: l), coreOK (normF p) := fun p hp => by
      have := okT_part h hp
      exact coreOK_norm k p (by omega) this.1 fun y hy => hr y ((partsF_mem hp).1 y hy)
    obtain ⟨ps, hps⟩ : ∃ ps, normsF (partsF (x :: l)) = ps := ⟨_, rfl⟩
    have hall : ∀ m ∈ ps, coreOK m := fun m hm => by
      rw [← hps] at hm
      unfold normsF at hm
      rw [List.mem_map] at hm
      obtain ⟨p, hp, rfl⟩ := hm
      exact ih p hp
    have hpl : lenI ps = x.2.1 := by rw [← hps, ← hsp.2.1]; simp [normsF, lenI]
    rw [normF_eq, hps]
    have hrx := hr x List.mem_cons_self
    have har := (h.2.1 x List.mem_cons_self).2
    obtain ⟨xo, xn, xf, xt, ts, xm, rfl⟩ : ∃ (q1 q2 q3 q4 : Int) (q5 : List (den TermT)) (q6 : Int), x = (q1, q2, q3, q4, q5, q6) := ⟨_, _, _, _, _, _, rfl⟩
    have hrx' : rightF xo xn xf xt ts xm = true := hrx
    have har1 : xo = 3 ∨ xo = 7 ∨ xo = 8 ∨ xo = 9 → xn = 1 := har.1
    have har2 : xo = 6 ∨ xo = 10 → xn = 2 := har.2
    have hpl' : lenI ps = xn := hpl
    have g0 : 1 ≤ lenI ps → coreOK (at0 ps) := fun hl => by
      cases ps with
      | nil => simp [lenI] at hl
      | cons p r => exact hall p List.mem_cons_self
    have g1 : 2 ≤ lenI ps → coreOK (at1 ps) := fun hl => by
      match ps with
      | [] => simp [lenI] at hl
      | [p] => simp [lenI] at hl
      | p :: q :: r => exact hall q (List.mem_cons_of_mem _ List.mem_cons_self)
    have hb : (0 ≤ xf ∧ xf ≤ 2147483647) ∧ (xt ≤ 2147483647 ∧ (0 ≤ xt ∨ xt = -1)) ∧ aloneF xo xn xf xt ts xm = true := by
      simp only [rightF, Bool.and_eq_true, Bool.or_eq_true, decide_eq_true_eq] at hrx'
      obtain ⟨⟨⟨⟨⟨b0, b1⟩, b2⟩, b3⟩, b4⟩, b5⟩ := hrx'
      exact ⟨⟨b1, b2⟩, ⟨b3, b4⟩, b0⟩
    have t0 : coreOK [nd 0] := coreOK_nd (.inl rfl)
    unfold stepN
    dsimp only
    by_cases e3 : xo = 3
    · rw [if_pos e3]; have := har1 (.inl e3); exact coreOK_not (g0 (by omega))
    rw [if_neg e3]
    by_cases e4 : xo = 4
    · rw [if_pos e4]; exact coreOK_and hall
    rw [if_neg e4]
    by_cases e5 : xo = 5
    · rw [if_pos e5]; exact coreOK_or hall
    rw [if_neg e5]
    by_cases e6 : xo = 6
    · rw [if_pos e6]
      have := har2 (.inl e6)
      refine coreOK_or fun m hm => ?_
      simp only [List.mem_cons, List.not_mem_nil, or_false] at hm
      rcases hm with rfl | rfl
      · exact coreOK_not (g0 (by omega))
      · exact g1 (by omega)
    rw [if_neg e6]
    by_cases e7 : xo = 7
    · rw [if_pos e7]; have := har1 (.inr (.inl e7)); exact coreOK_prev (g0 (by omega))
    rw [if_neg e7]
    by_cases e8 : xo = 8
    · rw [if_pos e8]; have := har1 (.inr (.inr (.inl e8))); exact coreOK_since t0 (g0 (by omega)) hb.1 hb.2.1
    rw [if_neg e8]
    by_cases e9 : xo = 9
    · rw [if_pos e9]; have := har1 (.inr (.inr (.inr e9))); exact coreOK_not (coreOK_since t0 (coreOK_not (g0 (by omega))) hb.1 hb.2.1)
    rw [if_neg e9]
    by_cases e10 : xo = 10
    · rw [if_pos e10]; have := har2 (.inr e10); exact coreOK_since (g0 (by omega)) (g1 (by omega)) hb.1 hb.2.1
    rw [if_neg e10]
    have hop : xo = 0 ∨ xo = 1 ∨ xo = 2 := by
      have h1 := hb.2.2
      simp only [aloneF, Bool.and_eq_true, opOK, decide_eq_true_eq] at h1
      obtain ⟨⟨⟨⟨a1, _⟩, _⟩, _⟩, _⟩ := h1
      omega
    have hn0 : xn = 0 := by
      have h1 := hb.2.2
      simp only [aloneF, Bool.and_eq_true, Bool.or_eq_true, decide_eq_true_eq] at h1
      obtain ⟨⟨⟨⟨_, a2⟩, _⟩, _⟩, a5⟩ := h1
      have b1 : leastF xo = 0 := by rcases hop with rfl | rfl | rfl <;> rfl
      have b2 : mostF xo = 0 := by rcases hop with rfl | rfl | rfl <;> rfl
      rw [b1] at a2
      rw [b2] at a5
      omega
    have hp0 : partsF ((xo, xn, xf, xt, ts, xm) :: l) = [] := len_zero.1 (by rw [hsp.2.1]; exact hn0)
    have hl0 : l = [] := by have := hsp.1; rw [hp0] at this; exact this.symm
    subst hl0
    refine ⟨core_of h.1 fun y hy => ?_, good_of fun p hp => by rw [hp0] at hp; cases hp⟩
    rw [List.mem_singleton] at hy
    subst hy
    unfold idxFew_p notB
    dsimp only
    have : fewF xo xn xf xt ts xm = true := by
      unfold fewF
      rw [hrx', Bool.and_true]
      rcases hop with rfl | rfl | rfl <;> simp
    rw [this]; rfl
/-- One behind the other. -/
def adj : List (den NodeT) → Prop
  | [] => True
  | x :: l => (match l with | [] => True | y :: _ => childOK x.1 y.1) ∧ adj l
def leafOp (op : Int) : Prop := op ≠ 3 ∧ op ≠ 5 ∧ op ≠ 7
theorem child_leaf {op c : Int} (h : leafOp op) : childOK op c := ⟨fun e => absurd e h.1, fun e => absurd e h.2.1, fun e => absurd e h.2.2⟩
def lastLeaf : List (den NodeT) → Prop
  | [] => False
  | [x] => leafOp x.1
  | _ :: y :: l => lastLeaf (y :: l)
theorem adj_app : ∀ {p q : List (den NodeT)}, adj p → lastLeaf p → adj q → adj (p ++ q)
  | [], q, _, h, _ => h.elim
  | [x], q, hp, hl, hq => by
    refine ⟨?_, hq⟩
    cases q with
    | nil => trivial
    | cons y r => exact child_leaf hl
  | x :: y :: l, q, hp, hl, hq => ⟨hp.1, adj_app (p := y :: l) hp.2 hl hq⟩
theorem last_app : ∀ {p q : List (den NodeT)}, lastLeaf q → lastLeaf (p ++ q)
  | [], q, h => h
  | [x], q, h => by
    cases q with
    | nil => exact h.elim
    | cons y r => exact h
  | x :: y :: l, q, h => last_app (p := y :: l) h
theorem adj_flat : ∀ (f : List (List (den NodeT))), (∀ p ∈ f, adj p ∧ lastLeaf p) → adj f.flatten ∧ (f ≠ [] → lastLeaf f.flatten)
  | [], _ => ⟨trivial, fun h => absurd rfl h⟩
  | p :: r, h => by
    have ih := adj_flat r fun q hq => h q (List.mem_cons_of_mem _ hq)
    have hp := h p List.mem_cons_self
    rw [List.flatten_cons]
    refine ⟨adj_app hp.1 hp.2 ih.1, fun _ => ?_⟩
    cases r with
    | nil => rw [List.flatten_nil, List.append_nil]; exact hp.2
    | cons q r => exact last_app (ih.2 (by simp))
theorem core_adj : ∀ (k : Nat) (n : List (den NodeT)), n.length ≤ k → coreOK n → adj n ∧ lastLeaf n
  | 0, n, hk, h => by
    have : n = [] := List.length_eq_zero_iff.1 (by omega)
    subst this
    exact absurd rfl (partsB_iff.1 (core_parts h.1)).1
  | k + 1, [], hk, h => absurd rfl (partsB_iff.1 (core_parts h.1)).1
  | k + 1, x :: l, hk, h => by
    have hsp := partsF_spec (core_parts h.1)
    have hp : ∀ p ∈ partsF (x :: l), adj p ∧ lastLeaf p := fun p hp => by
      have hm := (partsF_mem hp).2.1
      exact core_adj k p (by unfold lenI at hm; simp only [List.length_cons] at *; omega) (coreOK_part h hp).1
    have hf := adj_flat _ hp
    rw [hsp.1] at hf
    cases hps : partsF (x :: l) with
    | nil =>
      rw [hps] at hsp
      have hl : l = [] := hsp.1.symm
      have hn : x.2.1 = 0 := hsp.2.1.symm
      subst hl
      refine ⟨⟨trivial, trivial⟩, ?_⟩
      obtain ⟨xo, xn, xf, xt, ts, xm, rfl⟩ : ∃ (q1 q2 q3 q4 : Int) (q5 : List (den TermT)) (q6 : Int), x = (q1, q2, q3, q4, q5, q6) := ⟨_, _, _, _, _, _, rfl⟩
      have hx' := few_of h.1 (List.mem_cons_self (a := (xo, xn, xf, xt, ts, xm)) (l := []))
      simp only [fewF, rightF, aloneF, Bool.and_eq_true, Bool.or_eq_true, decide_eq_true_eq] at hx'
      obtain ⟨_, ⟨⟨⟨⟨⟨⟨⟨⟨_, a2⟩, _⟩, _⟩, _⟩, _⟩, _⟩, _⟩, _⟩, _⟩ := hx'
      have hn' : xn = 0 := hn
      rw [hn'] at a2
      show leafOp xo
      refine ⟨?_, ?_, ?_⟩ <;> (rintro rfl; have : ¬ ((0 : Int) ≥ 1) := by decide)
      · exact this a2
      · exact absurd a2 (by decide)
      · exact this a2
    | cons p r =>
      have hne : partsF (x :: l) ≠ [] := by rw [hps]; simp
      have hpm : p ∈ partsF (x :: l) := by rw [hps]; exact List.mem_cons_self
      have hl : l = p ++ r.flatten := by rw [← hsp.1, hps, List.flatten_cons]
      have hc := (coreOK_part h hpm).2
      have hpn := (partsB_iff.1 (hsp.2.2.2 p hpm)).1
      cases p with
      | nil => exact absurd rfl hpn
      | cons y q =>
        have hl2 : l = y :: (q ++ r.flatten) := by rw [hl]; rfl
        subst hl2
        exact ⟨⟨hc, hf.1⟩, hf.2 hne⟩
theorem adj_nth : ∀ {n : List (den NodeT)} {i : Nat}, adj n → i + 1 < n.length → childOK (nth NodeT n (i : Int)).1 (nth NodeT n ((i + 1 : Nat) : Int)).1
  | [], i, _, h => by simp at h
  | [x], i, _, h => by simp at h
  | x :: y :: l, 0, h, _ => h.1
  | x :: y :: l, i + 1, h, hi => by
    have := adj_nth (n := y :: l) (i := i) h.2 (by simpa using hi)
    exact this
end Go.Proofs.Ytmnifphhdeppnaa.Sx

