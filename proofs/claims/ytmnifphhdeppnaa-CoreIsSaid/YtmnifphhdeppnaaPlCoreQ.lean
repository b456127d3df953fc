/- Ors of ors: plain laws. -/
import Derived.Test.YtmnifphhdeppnaaPlCoreP
namespace Go.Proofs.Ytmnifphhdeppnaa.Sx
open Go.RowKit
set_option maxRecDepth 100000
set_option linter.unusedVariables false
set_option linter.unusedSimpArgs false
/-- What a part of a core formula has. -/
theorem few_of {p : List (den NodeT)} (h : isCoreF p = true) {op nn fr to num : Int} {ts : List (den TermT)} (hm : (op, nn, fr, to, ts, num) ∈ p) : fewF op nn fr to ts num = true := by
  simp only [isCoreF, Bool.and_eq_true, Bool.not_eq_true', List.any_eq_false] at h
  have hx := h.2 _ hm
  cases hc : fewF op nn fr to ts num with
  | true => rfl
  | false => exact absurd (show idxFew_p (op, nn, fr, to, ts, num) = true by unfold idxFew_p notB; dsimp only; rw [hc]; rfl) hx
theorem core_parts {p : List (den NodeT)} (h : isCoreF p = true) : partsB p = true := by
  simp only [isCoreF, Bool.and_eq_true] at h; exact h.1
theorem core_leaf {p : List (den NodeT)} {k : Int} (hk : k = 0 ∨ k = 1) (h : isCoreF p = true) : isOpF p k = true ↔ p = [nd k] := by
  constructor
  · intro h1
    have hB := core_parts h
    cases p with
    | nil => cases h1
    | cons x l =>
      obtain ⟨xo, xn, xf, xt, ts, xm, rfl⟩ : ∃ (q1 q2 q3 q4 : Int) (q5 : List (den TermT)) (q6 : Int), x = (q1, q2, q3, q4, q5, q6) := ⟨_, _, _, _, _, _, rfl⟩
      have h2 : xo = k := of_decide_eq_true h1
      have hx' := few_of h (List.mem_cons_self (a := (xo, xn, xf, xt, ts, xm)) (l := l))
      simp only [fewF, rightF, aloneF, Bool.and_eq_true, Bool.or_eq_true, decide_eq_true_eq] at hx'
      subst h2
      have hs := partsF_spec hB
      have b1 : leastF xo = 0 := by rcases hk with rfl | rfl <;> rfl
      have b2 : mostF xo = 0 := by rcases hk with rfl | rfl <;> rfl
      have b3 : timedF xo = false := by rcases hk with rfl | rfl <;> rfl
      obtain ⟨_, ⟨⟨⟨⟨⟨⟨⟨⟨_, a2⟩, a3⟩, a4⟩, a5⟩, _⟩, _⟩, _⟩, _⟩, _⟩ := hx'
      rw [b1] at a2
      rw [b2] at a5
      rw [b3] at a3
      have hn : xn = 0 := by omega
      have c3 := a3.resolve_left (by simp)
      have c4 := a4.resolve_left (by omega)
      obtain ⟨rfl, rfl⟩ := c3
      obtain ⟨c5, rfl⟩ := c4
      have c6 := len_zero.1 c5
      subst c6
      subst hn
      have hp : partsF ((xo, 0, 0, 0, [], 0) :: l) = [] := len_zero.1 hs.2.1
      have hl : l = [] := by
        have := hs.1
        rw [hp] at this
        exact this.symm
      rw [hl]; rfl
  · rintro rfl; exact decide_eq_true rfl
theorem core_not {x : den NodeT} {l : List (den NodeT)} (h : isCoreF (x :: l) = true) (h3 : isOpF (x :: l) 3 = true) : x = (3, 1, 0, 0, [], 0) ∧ partsB l = true := by
  have hB := core_parts h
  obtain ⟨xo, xn, xf, xt, ts, xm, rfl⟩ : ∃ (q1 q2 q3 q4 : Int) (q5 : List (den TermT)) (q6 : Int), x = (q1, q2, q3, q4, q5, q6) := ⟨_, _, _, _, _, _, rfl⟩
  have h2 : xo = 3 := of_decide_eq_true h3
  have hx' := few_of h (List.mem_cons_self (a := (xo, xn, xf, xt, ts, xm)) (l := l))
  simp only [fewF, rightF, aloneF, Bool.and_eq_true, Bool.or_eq_true, decide_eq_true_eq] at hx'
  subst h2
  have hs := partsF_spec hB
  have b1 : leastF 3 = 1 := rfl
  have b2 : mostF 3 = 1 := rfl
  have b3 : timedF 3 = false := rfl
  obtain ⟨_, ⟨⟨⟨⟨⟨⟨⟨⟨_, a2⟩, a3⟩, a4⟩, a5⟩, _⟩, _⟩, _⟩, _⟩, _⟩ := hx'
  rw [b1] at a2
  rw [b2] at a5
  rw [b3] at a3
  have hn : xn = 1 := by omega
  have c3 := a3.resolve_left (by simp)
  have c4 := a4.resolve_left (by omega)
  obtain ⟨rfl, rfl⟩ := c3
  obtain ⟨c5, rfl⟩ := c4
  have c6 := len_zero.1 c5
  subst c6
  subst hn
  refine ⟨rfl, ?_⟩
  have hlen : lenI (partsF ((3, 1, 0, 0, [], 0) :: l)) = 1 := hs.2.1
  cases hps : partsF ((3, 1, 0, 0, [], 0) :: l) with
  | nil => rw [hps] at hlen; simp [lenI] at hlen
  | cons p r =>
    rw [hps] at hlen hs
    have hr : r = [] := len_zero.1 (by rw [len_cons] at hlen; omega)
    subst hr
    have hf := hs.1
    rw [List.flatten_cons, List.flatten_nil, List.append_nil] at hf
    rw [← hf]
    exact hs.2.2.2 p List.mem_cons_self
/-- not twice -/
theorem not_not {a : List (den NodeT)} (h : isCoreF a = true) (hg : isOpF a 3 = true → isOpF (a.drop 1) 3 = false ∧ isOpF (a.drop 1) 0 = false ∧ isOpF (a.drop 1) 1 = false) : notF (notF a) = a := by
  cases h0 : isOpF a 0 with
  | true => rw [(core_leaf (.inl rfl) h).1 h0]; rfl
  | false =>
    cases h1 : isOpF a 1 with
    | true => rw [(core_leaf (.inr rfl) h).1 h1]; rfl
    | false =>
      cases h3 : isOpF a 3 with
      | false =>
        have e : notF a = makeF 3 0 0 [] 0 [a] := by unfold notF; rw [h0, h1, h3]; rfl
        rw [e]
        show notF ((3, 1, 0, 0, [], 0) :: (a ++ [])) = a
        rw [List.append_nil]
        rfl
      | true =>
        obtain ⟨g1, g2, g3⟩ := hg h3
        have e : notF a = a.drop 1 := by unfold notF; rw [h0, h1, h3]; rfl
        rw [e]
        cases a with
        | nil => cases h3
        | cons x l =>
          have hc := core_not h h3
          simp only [List.drop_succ_cons, List.drop_zero] at g1 g2 g3 ⊢
          have e2 : notF l = makeF 3 0 0 [] 0 [l] := by unfold notF; rw [g1, g2, g3]; rfl
          rw [e2, hc.1]
          show (3, 1, 0, 0, [], 0) :: (l ++ []) = _
          rw [List.append_nil]
theorem skip_flat {L : Int} : ∀ (f : List (List (den NodeT))), (∀ p ∈ f, partsB p = true) → lens f ≤ L → skipT L f.flatten (lenI f) = some []
  | [], _, _ => rfl
  | p :: r, h, hL => by
    rw [lens_cons] at hL
    have hr := lens_nn r
    have hp0 := lenI_nn p
    have hp := (partsB_iff.1 (h p List.mem_cons_self)).2
    have h1 := skipT_take hp (L' := L) (by rw [lenI_nil]; omega) r.flatten
    simp only [List.length_nil, Nat.sub_zero, List.take_length] at h1
    rw [List.flatten_cons, len_cons, show lenI r + 1 = 1 + lenI r by omega, skipT_add (by omega) (lenI_nn r), h1]
    exact skip_flat r (fun q hq => h q (List.mem_cons_of_mem _ hq)) (by omega)
theorem cut_flat {L : Int} : ∀ (k : Nat) (f : List (List (den NodeT))), (∀ p ∈ f, partsB p = true) → lens f ≤ L → f.flatten.length ≤ k → cutT L k f.flatten = f
  | k, [], _, _, _ => by cases k <;> rfl
  | 0, p :: r, h, _, hk => by
    have := (partsB_iff.1 (h p List.mem_cons_self)).1
    rw [List.flatten_cons, List.length_append] at hk
    exact absurd (List.length_eq_zero_iff.1 (by omega)) this
  | k + 1, p :: r, h, hL, hk => by
    rw [lens_cons] at hL
    have hr := lens_nn r
    have hp0 := lenI_nn p
    have hB := partsB_iff.1 (h p List.mem_cons_self)
    have h1 := skipT_take hB.2 (L' := L) (by rw [lenI_nil]; omega) r.flatten
    simp only [List.length_nil, Nat.sub_zero, List.take_length] at h1
    rw [List.flatten_cons] at hk ⊢
    rw [List.length_append] at hk
    cases p with
    | nil => exact absurd rfl hB.1
    | cons x q =>
      simp only [List.cons_append] at h1 ⊢
      simp only [cutT]
      rw [h1]
      dsimp only
      rw [cut_flat k r (fun m hm => h m (List.mem_cons_of_mem _ hm)) (by omega) (by simp only [List.length_cons] at hk; omega)]
      congr 1
      have : (x :: (q ++ r.flatten)).length - r.flatten.length = (x :: q).length := by simp only [List.length_cons, List.length_append]; omega
      rw [this, ← List.cons_append]
      exact List.take_left' rfl
theorem lens_ge : ∀ {f : List (List (den NodeT))}, (∀ p ∈ f, partsB p = true) → lenI f ≤ lens f
  | [], _ => Int.le_refl _
  | p :: r, h => by
    have ih := lens_ge (f := r) fun m hm => h m (List.mem_cons_of_mem _ hm)
    have hne := (partsB_iff.1 (h p List.mem_cons_self)).1
    have : 1 ≤ lenI p := by cases p with | nil => exact absurd rfl hne | cons x q => have := lenI_nn q; rw [len_cons]; omega
    rw [lens_cons, len_cons]; omega
/-- The parts of what is made. -/
theorem parts_make {op fr to : Int} {f : List (List (den NodeT))} (h : ∀ p ∈ f, partsB p = true) : partsB (makeF op fr to [] 0 f) = true ∧ partsF (makeF op fr to [] 0 f) = f := by
  have hg := lens_ge h
  have h0 := lenI_nn f
  have hlen : lenI (makeF op fr to [] 0 f) = 1 + lens f := len_make
  have hB : partsB (makeF op fr to [] 0 f) = true := by
    refine partsB_iff.2 ⟨by unfold makeF; simp, ?_⟩
    rw [hlen]
    unfold makeF
    rw [skipT_cons (by omega)]
    dsimp only
    have hc : ¬ (lenI f < 0 ∨ 1 + lens f < lenI f) := by omega
    rw [if_neg hc, show (1 : Int) + lenI f - 1 = lenI f by omega]
    exact skip_flat f h (by omega)
  refine ⟨hB, ?_⟩
  unfold partsF
  rw [if_pos hB, hlen]
  exact cut_flat _ f h (by omega) (by simp [makeF])
def nonF (l : List (List (den NodeT))) : Prop := ∀ m ∈ l, isOpF m 1 = false
theorem ded_nodup : ∀ (l out : List (List (den NodeT))), out.Nodup → nonF out → (dedG out l).Nodup ∧ nonF (dedG out l)
  | [], out, h1, h2 => ⟨h1, h2⟩
  | n :: l, out, h1, h2 => by
    simp only [dedG]
    split
    · exact ded_nodup l out h1 h2
    · rename_i hc
      refine ded_nodup l (out ++ [n]) ?_ fun m hm => ?_
      · rw [List.nodup_append]
        refine ⟨h1, by simp, fun a ha b hb => ?_⟩
        rw [List.mem_singleton] at hb
        subst hb
        rintro rfl
        exact hc (.inr (hasF_iff.2 ha))
      · rw [List.mem_append, List.mem_singleton] at hm
        rcases hm with hm | rfl
        · exact h2 m hm
        · cases hf : isOpF m 1 with
          | false => rfl
          | true => exact absurd (.inl hf) hc
theorem flat_nodup (l : List (List (den NodeT))) : (flatF l).Nodup ∧ nonF (flatF l) := ded_nodup _ [] List.nodup_nil fun m hm => by cases hm
theorem ded_id : ∀ (f out : List (List (den NodeT))), (out ++ f).Nodup → nonF f → dedG out f = out ++ f
  | [], out, _, _ => by simp [dedG]
  | n :: f, out, h1, h2 => by
    simp only [dedG]
    have hc : ¬ (isOpF n 1 = true ∨ hasF out n = true) := by
      rintro (h | h)
      · rw [h2 n List.mem_cons_self] at h; cases h
      · have := hasF_iff.1 h
        rw [List.nodup_append] at h1
        exact h1.2.2 n this n List.mem_cons_self rfl
    rw [if_neg hc, ded_id f (out ++ [n]) (by rw [List.append_assoc]; exact h1) fun m hm => h2 m (List.mem_cons_of_mem _ hm), List.append_assoc]
    rfl
theorem flat_whole {l : List (List (den NodeT))} (h : ∀ p ∈ l, partsB p = true) : ∀ p ∈ flatF l, partsB p = true := by
  intro m hm
  rcases (ded_size (allF l) []).2 m hm with h1 | h1
  · cases h1
  · unfold allF at h1
    rw [List.mem_flatMap] at h1
    obtain ⟨n, hn, hm⟩ := h1
    split at hm
    · exact (partsF_mem hm).2.2
    · rw [List.mem_singleton] at hm; rw [hm]; exact h n hn
/-- Where a yes is among them. -/
theorem yes_in {f : List (List (den NodeT))} (h : saysYes f = true) : orFl f = [nd 0] := by unfold orFl; rw [if_pos h]
theorem yes_of {f : List (List (den NodeT))} {m : List (den NodeT)} (hm : m ∈ f) (h : isOpF m 0 = true ∨ notF m ∈ f) : saysYes f = true := by
  simp only [saysYes, List.any_eq_true, Bool.or_eq_true]
  exact ⟨m, hm, h.imp id hasF_iff.2⟩
theorem cor_true {a : List (den NodeT)} : corF [a, [nd 0]] = [nd 0] := by
  refine yes_in (yes_of (m := [nd 0]) ?_ (.inl rfl))
  have h1 : [nd 0] ∈ allF [a, [nd 0]] := by
    have : allF [a, [nd 0]] = allF [a] ++ [[nd 0]] := by rw [show [a, [nd 0]] = [a] ++ [[nd 0]] from rfl, allF_app]; rfl
    rw [this]; exact List.mem_append.2 (.inr (List.mem_singleton.2 rfl))
  exact (ded_all _ [] h1).resolve_left (by rw [isOp_nd]; decide)
theorem cand_false {a : List (den NodeT)} : candF [a, [nd 1]] = [nd 1] := by
  unfold candF
  have : nots [a, [nd 1]] = [notF a, [nd 0]] := rfl
  rw [this, cor_true]; rfl
theorem allF_one {a : List (den NodeT)} (h : isOpF a 5 = false) : allF [a] = [a] := by simp [allF, h]
/-- an or of a formula and its opposite -/
theorem cor_not {a : List (den NodeT)} (h : isCoreF a = true) (h5 : isOpF a 5 = false) (hn5 : isOpF (notF a) 5 = false) (hg : isOpF a 3 = true → isOpF (a.drop 1) 1 = false) : corF [a, notF a] = [nd 0] := by
  have hall : allF [a, notF a] = [a, notF a] := by
    rw [show [a, notF a] = [a] ++ [notF a] from rfl, allF_app, allF_one h5, allF_one hn5]
  have h1 : isOpF a 1 = true ∨ a ∈ flatF [a, notF a] := by unfold flatF; rw [hall]; exact ded_all _ [] List.mem_cons_self
  have h2 : isOpF (notF a) 1 = true ∨ notF a ∈ flatF [a, notF a] := by unfold flatF; rw [hall]; exact ded_all _ [] (List.mem_cons_of_mem _ List.mem_cons_self)
  rcases h1 with h1 | h1
  · have e := (core_leaf (.inr rfl) h).1 h1
    subst e
    have e2 : notF [nd 1] = [nd 0] := rfl
    rw [e2]
    exact cor_true
  · cases h0 : isOpF a 0 with
    | true => exact yes_in (yes_of h1 (.inl h0))
    | false =>
      rcases h2 with h2 | h2
      · -- the opposite says no: then it is no not, and a is true
        exfalso
        have hx : isOpF a 1 = false := (flat_nodup _).2 a h1
        cases h3 : isOpF a 3 with
        | false =>
          have e : notF a = makeF 3 0 0 [] 0 [a] := by unfold notF; rw [h0, hx, h3]; rfl
          rw [e] at h2; cases h2
        | true =>
          have e : notF a = a.drop 1 := by unfold notF; rw [h0, hx, h3]; rfl
          rw [e, hg h3] at h2; cases h2
      · exact yes_in (yes_of h1 (.inr h2))
theorem orFl_two {f : List (List (den NodeT))} (h : saysYes f = false) (hl : 2 ≤ lenI f) : orFl f = makeF 5 0 0 [] 0 f := by
  unfold orFl
  rw [if_neg (by rw [h]; simp)]
  match f with
  | [] => simp [lenI] at hl
  | [n] => simp [lenI] at hl
  | n :: m :: r => rfl
/-- ors of what an or has made -/
theorem cor_cor {l : List (List (den NodeT))} (hB : ∀ p ∈ l, partsB p = true) (h1 : ∀ n, flatF l = [n] → isOpF n 5 = false) : corF [corF l] = corF l := by
  have hw := flat_whole hB
  have hnd := flat_nodup l
  have ho : corF l = orFl (flatF l) := rfl
  cases hy : saysYes (flatF l) with
  | true => rw [ho, yes_in hy]; decide
  | false =>
    match hf : flatF l with
    | [] => rw [ho, hf]; decide
    | [n] =>
      rw [hf] at hy hnd
      have e : corF l = n := by rw [ho, hf]; unfold orFl; rw [if_neg (by rw [hy]; simp)]
      have e2 : flatF [n] = [n] := by
        unfold flatF
        rw [allF_one (h1 n hf)]
        exact ded_id [n] [] hnd.1 hnd.2
      rw [e]
      show orFl (flatF [n]) = n
      rw [e2]; unfold orFl; rw [if_neg (by rw [hy]; simp)]
    | n :: m :: r =>
      rw [hf] at hy hnd hw
      have hl : 2 ≤ lenI (n :: m :: r) := by have := lenI_nn r; rw [len_cons, len_cons]; omega
      have e : corF l = makeF 5 0 0 [] 0 (n :: m :: r) := by rw [ho, hf, orFl_two hy hl]
      have hp := parts_make (op := 5) (fr := 0) (to := 0) hw
      have e2 : allF [makeF 5 0 0 [] 0 (n :: m :: r)] = n :: m :: r := by
        have h5 : isOpF (makeF 5 0 0 [] 0 (n :: m :: r)) 5 = true := rfl
        simp [allF, h5, hp.2]
      have e3 : flatF [makeF 5 0 0 [] 0 (n :: m :: r)] = n :: m :: r := by
        unfold flatF; rw [e2]; exact ded_id _ [] hnd.1 hnd.2
      rw [e]
      show orFl (flatF [makeF 5 0 0 [] 0 (n :: m :: r)]) = _
      rw [e3, orFl_two hy hl]
/-- Where an or of one is that one, it is none, or has two parts at least that are each once. -/
theorem cor_self {a : List (den NodeT)} (hB : partsB a = true) (h : corF [a] = a) (h5 : isOpF a 5 = true) : flatF [a] = partsF a ∧ 2 ≤ lenI (partsF a) := by
  have hall : allF [a] = partsF a := by simp [allF, h5]
  have hw := flat_whole (l := [a]) fun p hp => by rw [List.mem_singleton] at hp; rw [hp]; exact hB
  have hnd := flat_nodup [a]
  have ho : corF [a] = orFl (flatF [a]) := rfl
  cases hy : saysYes (flatF [a]) with
  | true => rw [ho, yes_in hy] at h; rw [← h] at h5; cases h5
  | false =>
    match hf : flatF [a] with
    | [] => rw [ho, hf] at h; rw [← h] at h5; cases h5
    | [n] =>
      rw [ho, hf] at h
      rw [hf] at hy
      unfold orFl at h
      rw [if_neg (by rw [hy]; simp)] at h
      have hm : n ∈ flatF [a] := by rw [hf]; exact List.mem_singleton.2 rfl
      have hm2 : n ∈ allF [a] := ((ded_size (allF [a]) []).2 n hm).resolve_left (by simp)
      rw [hall] at hm2
      have := (partsF_mem hm2).2.1
      have h' : n = a := h
      rw [h'] at this
      omega
    | n :: m :: r =>
      rw [hf] at hy hw
      have hl : 2 ≤ lenI (n :: m :: r) := by have := lenI_nn r; rw [len_cons, len_cons]; omega
      rw [ho, hf, orFl_two hy hl] at h
      have hp := (parts_make (op := 5) (fr := 0) (to := 0) hw).2
      rw [h] at hp
      rw [hp]
      exact ⟨rfl, hl⟩
theorem flat_single {a b n : List (den NodeT)} (ha : partsB a = true) (hb : partsB b = true) (ka : corF [a] = a) (kb : corF [b] = b) (h : flatF [a, b] = [n]) : isOpF n 5 = false := by
  have hsub : ∀ {x : List (den NodeT)}, x = a ∨ x = b → partsB x = true → corF [x] = x → isOpF x 5 = false := by
    intro x hx hB hk
    cases h5 : isOpF x 5 with
    | false => rfl
    | true =>
      have hs := cor_self hB hk h5
      have hnd := flat_nodup [x]
      rw [hs.1] at hnd
      have hall : allF [x] = partsF x := by simp [allF, h5]
      have hin : ∀ m ∈ partsF x, m ∈ flatF [a, b] := fun m hm => by
        have hm2 : m ∈ allF [a, b] := by
          rw [show [a, b] = [a] ++ [b] from rfl, allF_app]
          rcases hx with rfl | rfl
          · rw [hall]; exact List.mem_append.2 (.inl hm)
          · rw [hall]; exact List.mem_append.2 (.inr hm)
        exact (ded_all _ [] hm2).resolve_left (by rw [hnd.2 m hm]; simp)
      rw [h] at hin
      match hp : partsF x with
      | [] => rw [hp] at hs; have := hs.2; simp [lenI] at this
      | [m] => rw [hp] at hs; have := hs.2; simp [lenI] at this
      | m :: k :: r =>
        rw [hp] at hin hnd
        have e1 := List.mem_singleton.1 (hin m List.mem_cons_self)
        have e2 := List.mem_singleton.1 (hin k (List.mem_cons_of_mem _ List.mem_cons_self))
        have := hnd.1
        rw [e1, e2] at this
        simp at this
  have ga := hsub (.inl rfl) ha ka
  have gb := hsub (.inr rfl) hb kb
  have hall : allF [a, b] = [a, b] := by rw [show [a, b] = [a] ++ [b] from rfl, allF_app, allF_one ga, allF_one gb]
  have hm : n ∈ flatF [a, b] := by rw [h]; exact List.mem_singleton.2 rfl
  have hm2 : n ∈ allF [a, b] := ((ded_size (allF [a, b]) []).2 n hm).resolve_left (by simp)
  rw [hall] at hm2
  simp only [List.mem_cons, List.not_mem_nil, or_false] at hm2
  rcases hm2 with rfl | rfl
  · exact ga
  · exact gb
end Go.Proofs.Ytmnifphhdeppnaa.Sx

