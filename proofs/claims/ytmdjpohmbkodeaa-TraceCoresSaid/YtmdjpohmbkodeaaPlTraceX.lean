/- What a core is, for chapter 9 (CoreP, CoreQ, CoreR of chapter 8 in one). -/
import Derived.Test.YtmdjpohmbkodeaaSmTraceP
namespace Go.Proofs.Ytmdjpohmbkodeaa.Sx
open Go.RowKit
set_option maxRecDepth 100000
set_option maxHeartbeats 4000000
set_option linter.unusedVariables false
set_option linter.unusedSimpArgs false
theorem light_len {n : List (den NodeT)} (h : lightF n = true) : lenI n ≤ 310 := by
  simp only [lightF, Bool.and_eq_true, decide_eq_true_eq] at h
  exact h.1
theorem light_tree {n : List (den NodeT)} (h : lightF n = true) : treeOK n := by
  have hl := light_len h
  simp only [lightF, Bool.and_eq_true, decide_eq_true_eq, List.all_eq_true] at h
  refine treeOK_of (fun x hx => ?_) (by omega)
  have := h.2 x hx
  simp only [lightN, Bool.and_eq_true, decide_eq_true_eq] at this
  have := this.1
  unfold fits; omega
theorem tfs_nil : allTF [] := fun m hm => by cases hm
theorem tfs_cons {n : List (den NodeT)} {l : List (List (den NodeT))} (h : termsFit n) (k : allTF l) : allTF (n :: l) := fun m hm => by
  rw [List.mem_cons] at hm
  rcases hm with rfl | hm
  · exact h
  · exact k m hm
theorem sameF_self (a : List (den NodeT)) : sameF a a = true := by simp [sameF]
theorem sameF_iff {a b : List (den NodeT)} : sameF a b = true ↔ a = b := by simp [sameF]
theorem hasF_iff {l : List (List (den NodeT))} {n : List (den NodeT)} : hasF l n = true ↔ n ∈ l := by
  simp only [hasF, List.any_eq_true, sameF_iff]
  constructor
  · rintro ⟨x, hx, rfl⟩; exact hx
  · intro h; exact ⟨n, h, rfl⟩
theorem ded_app : ∀ (l m out : List (List (den NodeT))), dedG out (l ++ m) = dedG (dedG out l) m
  | [], m, out => rfl
  | n :: l, m, out => by
    simp only [List.cons_append, dedG]
    split
    · exact ded_app l m out
    · exact ded_app l m (out ++ [n])
theorem ded_keep : ∀ (l out : List (List (den NodeT))) {m : List (den NodeT)}, m ∈ out → m ∈ dedG out l
  | [], out, m, h => h
  | n :: l, out, m, h => by
    simp only [dedG]
    split
    · exact ded_keep l out h
    · exact ded_keep l (out ++ [n]) (List.mem_append.2 (.inl h))
theorem ded_all : ∀ (l out : List (List (den NodeT))) {m : List (den NodeT)}, m ∈ l → isOpF m 1 = true ∨ m ∈ dedG out l
  | n :: l, out, m, h => by
    simp only [dedG]
    rw [List.mem_cons] at h
    rcases h with rfl | h
    · split
      · rename_i hc
        rcases hc with hc | hc
        · exact .inl hc
        · exact .inr (ded_keep l out (hasF_iff.1 hc))
      · exact .inr (ded_keep l _ (List.mem_append.2 (.inr (List.mem_singleton.2 rfl))))
    · split
      · exact ded_all l out h
      · exact ded_all l _ h
theorem ded_skip : ∀ (l out : List (List (den NodeT))), (∀ m ∈ l, isOpF m 1 = true ∨ m ∈ out) → dedG out l = out
  | [], out, _ => rfl
  | n :: l, out, h => by
    simp only [dedG]
    rw [if_pos ((h n List.mem_cons_self).imp id fun h => hasF_iff.2 h)]
    exact ded_skip l out fun m hm => h m (List.mem_cons_of_mem _ hm)
theorem allF_app (l m : List (List (den NodeT))) : allF (l ++ m) = allF l ++ allF m := by simp [allF]
theorem flat_app (l m : List (List (den NodeT))) : flatF (l ++ m) = dedG (flatF l) (allF m) := by
  unfold flatF; rw [allF_app, ded_app]
/-- What is there already changes nothing. -/
theorem flat_again (l : List (List (den NodeT))) : flatF (l ++ l) = flatF l := by
  rw [flat_app]
  exact ded_skip _ _ fun m hm => ded_all (allF l) [] hm
theorem isOp_nd {op k : Int} : isOpF [nd op] k = decide (op = k) := rfl
theorem flat_false (l : List (List (den NodeT))) : flatF (l ++ [[nd 1]]) = flatF l := by
  rw [flat_app]
  refine ded_skip _ _ fun m hm => .inl ?_
  have : allF [[nd 1]] = [[nd 1]] := by decide
  rw [this, List.mem_singleton] at hm
  subst hm; rfl
theorem cor_false (l : List (List (den NodeT))) : corF (l ++ [[nd 1]]) = corF l := by unfold corF; rw [flat_false]
theorem cor_again (l : List (List (den NodeT))) : corF (l ++ l) = corF l := by unfold corF; rw [flat_again]
theorem nd_not : notF [nd 0] = [nd 1] := rfl
theorem cand_true (l : List (List (den NodeT))) : candF (l ++ [[nd 0]]) = candF l := by
  unfold candF
  have : nots (l ++ [[nd 0]]) = nots l ++ [[nd 1]] := by simp only [nots, List.map_append, List.map_cons, List.map_nil]; rfl
  rw [this, cor_false]
theorem cand_again (l : List (List (den NodeT))) : candF (l ++ l) = candF l := by
  unfold candF
  have : nots (l ++ l) = nots l ++ nots l := by simp [nots]
  rw [this, cor_again]
/-- What a part of a core formula has. -/
theorem few_of {p : List (den NodeT)} (h : isCoreF p = true) {op nn fr to num : Int} {ts : List (den TermT)} (hm : (op, nn, fr, to, ts, num) ∈ p) : fewF op nn fr to ts num = true := by
  simp only [isCoreF, Bool.and_eq_true, Bool.not_eq_true', List.any_eq_false] at h
  have hx := h.2 _ hm
  cases hc : fewF op nn fr to ts num with
  | true => rfl
  | false => exact absurd (show idxFew_p (op, nn, fr, to, ts, num) = true by unfold idxFew_p notB; dsimp only; rw [hc]; rfl) hx
theorem core_parts {p : List (den NodeT)} (h : isCoreF p = true) : partsB p = true := by
  simp only [isCoreF, Bool.and_eq_true] at h; exact h.1
theorem core_leaf {p : List (den NodeT)} {k : Int} (hk : k = 0 ∨ k = 1) (h : isCoreF p = true) : isOpF p k = true ↔ p = [nd k] := by
  constructor
  · intro h1
    have hB := core_parts h
    cases p with
    | nil => cases h1
    | cons x l =>
      obtain ⟨xo, xn, xf, xt, ts, xm, rfl⟩ : ∃ (q1 q2 q3 q4 : Int) (q5 : List (den TermT)) (q6 : Int), x = (q1, q2, q3, q4, q5, q6) := ⟨_, _, _, _, _, _, rfl⟩
      have h2 : xo = k := of_decide_eq_true h1
      have hx' := few_of h (List.mem_cons_self (a := (xo, xn, xf, xt, ts, xm)) (l := l))
      simp only [fewF, rightF, aloneF, Bool.and_eq_true, Bool.or_eq_true, decide_eq_true_eq] at hx'
      subst h2
      have hs := partsF_spec hB
      have b1 : leastF xo = 0 := by rcases hk with rfl | rfl <;> rfl
      have b2 : mostF xo = 0 := by rcases hk with rfl | rfl <;> rfl
      have b3 : timedF xo = false := by rcases hk with rfl | rfl <;> rfl
      obtain ⟨_, ⟨⟨⟨⟨⟨⟨⟨⟨_, a2⟩, a3⟩, a4⟩, a5⟩, _⟩, _⟩, _⟩, _⟩, _⟩ := hx'
      rw [b1] at a2
      rw [b2] at a5
      rw [b3] at a3
      have hn : xn = 0 := by omega
      have c3 := a3.resolve_left (by simp)
      have c4 := a4.resolve_left (by omega)
      obtain ⟨rfl, rfl⟩ := c3
      obtain ⟨c5, rfl⟩ := c4
      have c6 := len_zero.1 c5
      subst c6
      subst hn
      have hp : partsF ((xo, 0, 0, 0, [], 0) :: l) = [] := len_zero.1 hs.2.1
      have hl : l = [] := by
        have := hs.1
        rw [hp] at this
        exact this.symm
      rw [hl]; rfl
  · rintro rfl; exact decide_eq_true rfl
theorem core_not {x : den NodeT} {l : List (den NodeT)} (h : isCoreF (x :: l) = true) (h3 : isOpF (x :: l) 3 = true) : x = (3, 1, 0, 0, [], 0) ∧ partsB l = true := by
  have hB := core_parts h
  obtain ⟨xo, xn, xf, xt, ts, xm, rfl⟩ : ∃ (q1 q2 q3 q4 : Int) (q5 : List (den TermT)) (q6 : Int), x = (q1, q2, q3, q4, q5, q6) := ⟨_, _, _, _, _, _, rfl⟩
  have h2 : xo = 3 := of_decide_eq_true h3
  have hx' := few_of h (List.mem_cons_self (a := (xo, xn, xf, xt, ts, xm)) (l := l))
  simp only [fewF, rightF, aloneF, Bool.and_eq_true, Bool.or_eq_true, decide_eq_true_eq] at hx'
  subst h2
  have hs := partsF_spec hB
  have b1 : leastF 3 = 1 := rfl
  have b2 : mostF 3 = 1 := rfl
  have b3 : timedF 3 = false := rfl
  obtain ⟨_, ⟨⟨⟨⟨⟨⟨⟨⟨_, a2⟩, a3⟩, a4⟩, a5⟩, _⟩, _⟩, _⟩, _⟩, _⟩ := hx'
  rw [b1] at a2
  rw [b2] at a5
  rw [b3] at a3
  have hn : xn = 1 := by omega
  have c3 := a3.resolve_left (by simp)
  have c4 := a4.resolve_left (by omega)
  obtain ⟨rfl, rfl⟩ := c3
  obtain ⟨c5, rfl⟩ := c4
  have c6 := len_zero.1 c5
  subst c6
  subst hn
  refine ⟨rfl, ?_⟩
  have hlen : lenI (partsF ((3, 1, 0, 0, [], 0) :: l)) = 1 := hs.2.1
  cases hps : partsF ((3, 1, 0, 0, [], 0) :: l) with
  | nil => rw [hps] at hlen; simp [lenI] at hlen
  | cons p r =>
    rw [hps] at hlen hs
    have hr : r = [] := len_zero.1 (by rw [len_cons] at hlen; omega)
    subst hr
    have hf := hs.1
    rw [List.flatten_cons, List.flatten_nil, List.append_nil] at hf
    rw [← hf]
    exact hs.2.2.2 p List.mem_cons_self
/-- not twice -/
theorem not_not {a : List (den NodeT)} (h : isCoreF a = true) (hg : isOpF a 3 = true → isOpF (a.drop 1) 3 = false ∧ isOpF (a.drop 1) 0 = false ∧ isOpF (a.drop 1) 1 = false) : notF (notF a) = a := by
  cases h0 : isOpF a 0 with
  | true => rw [(core_leaf (.inl rfl) h).1 h0]; rfl
  | false =>
    cases h1 : isOpF a 1 with
    | true => rw [(core_leaf (.inr rfl) h).1 h1]; rfl
    | false =>
      cases h3 : isOpF a 3 with
      | false =>
        have e : notF a = makeF 3 0 0 [] 0 [a] := by unfold notF; rw [h0, h1, h3]; rfl
        rw [e]
        show notF ((3, 1, 0, 0, [], 0) :: (a ++ [])) = a
        rw [List.append_nil]
        rfl
      | true =>
        obtain ⟨g1, g2, g3⟩ := hg h3
        have e : notF a = a.drop 1 := by unfold notF; rw [h0, h1, h3]; rfl
        rw [e]
        cases a with
        | nil => cases h3
        | cons x l =>
          have hc := core_not h h3
          simp only [List.drop_succ_cons, List.drop_zero] at g1 g2 g3 ⊢
          have e2 : notF l = makeF 3 0 0 [] 0 [l] := by unfold notF; rw [g1, g2, g3]; rfl
          rw [e2, hc.1]
          show (3, 1, 0, 0, [], 0) :: (l ++ []) = _
          rw [List.append_nil]
/-- The parts of what is made. -/
def nonF (l : List (List (den NodeT))) : Prop := ∀ m ∈ l, isOpF m 1 = false
theorem ded_nodup : ∀ (l out : List (List (den NodeT))), out.Nodup → nonF out → (dedG out l).Nodup ∧ nonF (dedG out l)
  | [], out, h1, h2 => ⟨h1, h2⟩
  | n :: l, out, h1, h2 => by
    simp only [dedG]
    split
    · exact ded_nodup l out h1 h2
    · rename_i hc
      refine ded_nodup l (out ++ [n]) ?_ fun m hm => ?_
      · rw [List.nodup_append]
        refine ⟨h1, by simp, fun a ha b hb => ?_⟩
        rw [List.mem_singleton] at hb
        subst hb
        rintro rfl
        exact hc (.inr (hasF_iff.2 ha))
      · rw [List.mem_append, List.mem_singleton] at hm
        rcases hm with hm | rfl
        · exact h2 m hm
        · cases hf : isOpF m 1 with
          | false => rfl
          | true => exact absurd (.inl hf) hc
theorem flat_nodup (l : List (List (den NodeT))) : (flatF l).Nodup ∧ nonF (flatF l) := ded_nodup _ [] List.nodup_nil fun m hm => by cases hm
theorem ded_id : ∀ (f out : List (List (den NodeT))), (out ++ f).Nodup → nonF f → dedG out f = out ++ f
  | [], out, _, _ => by simp [dedG]
  | n :: f, out, h1, h2 => by
    simp only [dedG]
    have hc : ¬ (isOpF n 1 = true ∨ hasF out n = true) := by
      rintro (h | h)
      · rw [h2 n List.mem_cons_self] at h; cases h
      · have := hasF_iff.1 h
        rw [List.nodup_append] at h1
        exact h1.2.2 n this n List.mem_cons_self rfl
    rw [if_neg hc, ded_id f (out ++ [n]) (by rw [List.append_assoc]; exact h1) fun m hm => h2 m (List.mem_cons_of_mem _ hm), List.append_assoc]
    rfl
theorem flat_whole {l : List (List (den NodeT))} (h : ∀ p ∈ l, partsB p = true) : ∀ p ∈ flatF l, partsB p = true := by
  intro m hm
  rcases (ded_size (allF l) []).2 m hm with h1 | h1
  · cases h1
  · unfold allF at h1
    rw [List.mem_flatMap] at h1
    obtain ⟨n, hn, hm⟩ := h1
    split at hm
    · exact (partsF_mem hm).2.2
    · rw [List.mem_singleton] at hm; rw [hm]; exact h n hn
/-- Where a yes is among them. -/
theorem yes_in {f : List (List (den NodeT))} (h : saysYes f = true) : orFl f = [nd 0] := by unfold orFl; rw [if_pos h]
theorem yes_of {f : List (List (den NodeT))} {m : List (den NodeT)} (hm : m ∈ f) (h : isOpF m 0 = true ∨ notF m ∈ f) : saysYes f = true := by
  simp only [saysYes, List.any_eq_true, Bool.or_eq_true]
  exact ⟨m, hm, h.imp id hasF_iff.2⟩
theorem cor_true {a : List (den NodeT)} : corF [a, [nd 0]] = [nd 0] := by
  refine yes_in (yes_of (m := [nd 0]) ?_ (.inl rfl))
  have h1 : [nd 0] ∈ allF [a, [nd 0]] := by
    have : allF [a, [nd 0]] = allF [a] ++ [[nd 0]] := by rw [show [a, [nd 0]] = [a] ++ [[nd 0]] from rfl, allF_app]; rfl
    rw [this]; exact List.mem_append.2 (.inr (List.mem_singleton.2 rfl))
  exact (ded_all _ [] h1).resolve_left (by rw [isOp_nd]; decide)
theorem cand_false {a : List (den NodeT)} : candF [a, [nd 1]] = [nd 1] := by
  unfold candF
  have : nots [a, [nd 1]] = [notF a, [nd 0]] := rfl
  rw [this, cor_true]; rfl
theorem allF_one {a : List (den NodeT)} (h : isOpF a 5 = false) : allF [a] = [a] := by simp [allF, h]
/-- an or of a formula and its opposite -/
theorem cor_not {a : List (den NodeT)} (h : isCoreF a = true) (h5 : isOpF a 5 = false) (hn5 : isOpF (notF a) 5 = false) (hg : isOpF a 3 = true → isOpF (a.drop 1) 1 = false) : corF [a, notF a] = [nd 0] := by
  have hall : allF [a, notF a] = [a, notF a] := by
    rw [show [a, notF a] = [a] ++ [notF a] from rfl, allF_app, allF_one h5, allF_one hn5]
  have h1 : isOpF a 1 = true ∨ a ∈ flatF [a, notF a] := by unfold flatF; rw [hall]; exact ded_all _ [] List.mem_cons_self
  have h2 : isOpF (notF a) 1 = true ∨ notF a ∈ flatF [a, notF a] := by unfold flatF; rw [hall]; exact ded_all _ [] (List.mem_cons_of_mem _ List.mem_cons_self)
  rcases h1 with h1 | h1
  · have e := (core_leaf (.inr rfl) h).1 h1
    subst e
    have e2 : notF [nd 1] = [nd 0] := rfl
    rw [e2]
    exact cor_true
  · cases h0 : isOpF a 0 with
    | true => exact yes_in (yes_of h1 (.inl h0))
    | false =>
      rcases h2 with h2 | h2
      · -- the opposite says no: then it is no not, and a is true
        exfalso
        have hx : isOpF a 1 = false := (flat_nodup _).2 a h1
        cases h3 : isOpF a 3 with
        | false =>
          have e : notF a = makeF 3 0 0 [] 0 [a] := by unfold notF; rw [h0, hx, h3]; rfl
          rw [e] at h2; cases h2
        | true =>
          have e : notF a = a.drop 1 := by unfold notF; rw [h0, hx, h3]; rfl
          rw [e, hg h3] at h2; cases h2
      · exact yes_in (yes_of h1 (.inr h2))
theorem orFl_two {f : List (List (den NodeT))} (h : saysYes f = false) (hl : 2 ≤ lenI f) : orFl f = makeF 5 0 0 [] 0 f := by
  unfold orFl
  rw [if_neg (by rw [h]; simp)]
  match f with
  | [] => simp [lenI] at hl
  | [n] => simp [lenI] at hl
  | n :: m :: r => rfl
/-- ors of what an or has made -/
theorem cor_cor {l : List (List (den NodeT))} (hB : ∀ p ∈ l, partsB p = true) (h1 : ∀ n, flatF l = [n] → isOpF n 5 = false) : corF [corF l] = corF l := by
  have hw := flat_whole hB
  have hnd := flat_nodup l
  have ho : corF l = orFl (flatF l) := rfl
  cases hy : saysYes (flatF l) with
  | true => rw [ho, yes_in hy]; decide
  | false =>
    match hf : flatF l with
    | [] => rw [ho, hf]; decide
    | [n] =>
      rw [hf] at hy hnd
      have e : corF l = n := by rw [ho, hf]; unfold orFl; rw [if_neg (by rw [hy]; simp)]
      have e2 : flatF [n] = [n] := by
        unfold flatF
        rw [allF_one (h1 n hf)]
        exact ded_id [n] [] hnd.1 hnd.2
      rw [e]
      show orFl (flatF [n]) = n
      rw [e2]; unfold orFl; rw [if_neg (by rw [hy]; simp)]
    | n :: m :: r =>
      rw [hf] at hy hnd hw
      have hl : 2 ≤ lenI (n :: m :: r) := by have := lenI_nn r; rw [len_cons, len_cons]; omega
      have e : corF l = makeF 5 0 0 [] 0 (n :: m :: r) := by rw [ho, hf, orFl_two hy hl]
      have hp := parts_make (op := 5) (fr := 0) (to := 0) hw
      have e2 : allF [makeF 5 0 0 [] 0 (n :: m :: r)] = n :: m :: r := by
        have h5 : isOpF (makeF 5 0 0 [] 0 (n :: m :: r)) 5 = true := rfl
        simp [allF, h5, hp.2]
      have e3 : flatF [makeF 5 0 0 [] 0 (n :: m :: r)] = n :: m :: r := by
        unfold flatF; rw [e2]; exact ded_id _ [] hnd.1 hnd.2
      rw [e]
      show orFl (flatF [makeF 5 0 0 [] 0 (n :: m :: r)]) = _
      rw [e3, orFl_two hy hl]
/-- Where an or of one is that one, it is none, or has two parts at least that are each once. -/
theorem cor_self {a : List (den NodeT)} (hB : partsB a = true) (h : corF [a] = a) (h5 : isOpF a 5 = true) : flatF [a] = partsF a ∧ 2 ≤ lenI (partsF a) := by
  have hall : allF [a] = partsF a := by simp [allF, h5]
  have hw := flat_whole (l := [a]) fun p hp => by rw [List.mem_singleton] at hp; rw [hp]; exact hB
  have hnd := flat_nodup [a]
  have ho : corF [a] = orFl (flatF [a]) := rfl
  cases hy : saysYes (flatF [a]) with
  | true => rw [ho, yes_in hy] at h; rw [← h] at h5; cases h5
  | false =>
    match hf : flatF [a] with
    | [] => rw [ho, hf] at h; rw [← h] at h5; cases h5
    | [n] =>
      rw [ho, hf] at h
      rw [hf] at hy
      unfold orFl at h
      rw [if_neg (by rw [hy]; simp)] at h
      have hm : n ∈ flatF [a] := by rw [hf]; exact List.mem_singleton.2 rfl
      have hm2 : n ∈ allF [a] := ((ded_size (allF [a]) []).2 n hm).resolve_left (by simp)
      rw [hall] at hm2
      have := (partsF_mem hm2).2.1
      have h' : n = a := h
      rw [h'] at this
      omega
    | n :: m :: r =>
      rw [hf] at hy hw
      have hl : 2 ≤ lenI (n :: m :: r) := by have := lenI_nn r; rw [len_cons, len_cons]; omega
      rw [ho, hf, orFl_two hy hl] at h
      have hp := (parts_make (op := 5) (fr := 0) (to := 0) hw).2
      rw [h] at hp
      rw [hp]
      exact ⟨rfl, hl⟩
theorem flat_single {a b n : List (den NodeT)} (ha : partsB a = true) (hb : partsB b = true) (ka : corF [a] = a) (kb : corF [b] = b) (h : flatF [a, b] = [n]) : isOpF n 5 = false := by
  have hsub : ∀ {x : List (den NodeT)}, x = a ∨ x = b → partsB x = true → corF [x] = x → isOpF x 5 = false := by
    intro x hx hB hk
    cases h5 : isOpF x 5 with
    | false => rfl
    | true =>
      have hs := cor_self hB hk h5
      have hnd := flat_nodup [x]
      rw [hs.1] at hnd
      have hall : allF [x] = partsF x := by simp [allF, h5]
      have hin : ∀ m ∈ partsF x, m ∈ flatF [a, b] := fun m hm => by
        have hm2 : m ∈ allF [a, b] := by
          rw [show [a, b] = [a] ++ [b] from rfl, allF_app]
          rcases hx with rfl | rfl
          · rw [hall]; exact List.mem_append.2 (.inl hm)
          · rw [hall]; exact List.mem_append.2 (.inr hm)
        exact (ded_all _ [] hm2).resolve_left (by rw [hnd.2 m hm]; simp)
      rw [h] at hin
      match hp : partsF x with
      | [] => rw [hp] at hs; have := hs.2; simp [lenI] at this
      | [m] => rw [hp] at hs; have := hs.2; simp [lenI] at this
      | m :: k :: r =>
        rw [hp] at hin hnd
        have e1 := List.mem_singleton.1 (hin m List.mem_cons_self)
        have e2 := List.mem_singleton.1 (hin k (List.mem_cons_of_mem _ List.mem_cons_self))
        have := hnd.1
        rw [e1, e2] at this
        simp at this
  have ga := hsub (.inl rfl) ha ka
  have gb := hsub (.inr rfl) hb kb
  have hall : allF [a, b] = [a, b] := by rw [show [a, b] = [a] ++ [b] from rfl, allF_app, allF_one ga, allF_one gb]
  have hm : n ∈ flatF [a, b] := by rw [h]; exact List.mem_singleton.2 rfl
  have hm2 : n ∈ allF [a, b] := ((ded_size (allF [a, b]) []).2 n hm).resolve_left (by simp)
  rw [hall] at hm2
  simp only [List.mem_cons, List.not_mem_nil, or_false] at hm2
  rcases hm2 with rfl | rfl
  · exact ga
  · exact gb
def headOp : List (den NodeT) → Int
  | [] => -1
  | x :: _ => x.1
def childOK (op c : Int) : Prop := (op = 3 → c ≠ 3 ∧ c ≠ 0 ∧ c ≠ 1) ∧ (op = 5 → c ≠ 5 ∧ c ≠ 0 ∧ c ≠ 1) ∧ (op = 7 → c ≠ 1)
def goodG : Nat → List (den NodeT) → Prop
  | 0, _ => True
  | k + 1, n => ∀ p ∈ partsF n, childOK (headOp n) (headOp p) ∧ goodG k p
def good (n : List (den NodeT)) : Prop := ∀ k, goodG k n
theorem good_part {n p : List (den NodeT)} (h : good n) (hp : p ∈ partsF n) : childOK (headOp n) (headOp p) ∧ good p :=
  ⟨(h 1 p hp).1, fun k => (h (k + 1) p hp).2⟩
theorem good_of {n : List (den NodeT)} (h : ∀ p ∈ partsF n, childOK (headOp n) (headOp p) ∧ good p) : good n
  | 0 => trivial
  | k + 1 => fun p hp => ⟨(h p hp).1, (h p hp).2 k⟩
def coreOK (n : List (den NodeT)) : Prop := isCoreF n = true ∧ good n
theorem core_of {n : List (den NodeT)} (hB : partsB n = true) (h : ∀ x ∈ n, idxFew_p x = false) : isCoreF n = true := by
  simp only [isCoreF, Bool.and_eq_true, Bool.not_eq_true', List.any_eq_false]
  exact ⟨hB, fun x hx => by rw [h x hx]; simp⟩
theorem core_few {n : List (den NodeT)} (h : isCoreF n = true) : ∀ x ∈ n, idxFew_p x = false := by
  simp only [isCoreF, Bool.and_eq_true, Bool.not_eq_true', List.any_eq_false] at h
  exact fun x hx => by simpa using h.2 x hx
theorem coreOK_part {n p : List (den NodeT)} (h : coreOK n) (hp : p ∈ partsF n) : coreOK p ∧ childOK (headOp n) (headOp p) := by
  have hm := partsF_mem hp
  have hg := good_part h.2 hp
  exact ⟨⟨core_of hm.2.2 fun x hx => core_few h.1 x (hm.1 x hx), hg.2⟩, hg.1⟩
theorem headOp_is {n : List (den NodeT)} {k : Int} (hk : k ≠ -1) : isOpF n k = decide (headOp n = k) := by
  cases n with
  | nil => exact (decide_eq_false (fun h => hk h.symm)).symm
  | cons x l => rfl
theorem coreOK_nd {k : Int} (hk : k = 0 ∨ k = 1) : coreOK [nd k] := by
  rcases hk with rfl | rfl
  · refine ⟨by decide, good_of fun p hp => ?_⟩
    have : partsF [nd 0] = [] := by decide
    rw [this] at hp; cases hp
  · refine ⟨by decide, good_of fun p hp => ?_⟩
    have : partsF [nd 1] = [] := by decide
    rw [this] at hp; cases hp
theorem coreOK_make {op fr to : Int} {l : List (List (den NodeT))} (h : ∀ p ∈ l, coreOK p ∧ childOK op (headOp p)) (hf : fewF op (lenI l) fr to [] 0 = true) : coreOK (makeF op fr to [] 0 l) := by
  have hp := parts_make (op := op) (fr := fr) (to := to) (f := l) fun p hp => core_parts (h p hp).1.1
  refine ⟨core_of hp.1 fun x hx => ?_, good_of fun p hm => ?_⟩
  · unfold makeF at hx
    rw [List.mem_cons] at hx
    rcases hx with rfl | hx
    · unfold idxFew_p notB; dsimp only; rw [hf]; rfl
    · obtain ⟨p, hpl, hxp⟩ := List.mem_flatten.1 hx
      exact core_few (h p hpl).1.1 x hxp
  · rw [hp.2] at hm
    exact ⟨(h p hm).2, (h p hm).1.2⟩
theorem few_3 : fewF 3 1 0 0 [] 0 = true := by decide
theorem few_7 : fewF 7 1 0 0 [] 0 = true := by decide
theorem few_5 {n : Int} (h : 2 ≤ n) : fewF 5 n 0 0 [] 0 = true := by
  simp only [fewF, rightF, aloneF, Bool.and_eq_true, Bool.or_eq_true, decide_eq_true_eq]
  have b1 : leastF 5 = 2 := rfl
  have b3 : opOK 5 = true := rfl
  have b4 : lenI ([] : List (den TermT)) = 0 := rfl
  rw [b1, b3, b4]
  simp
  exact h
theorem few_10 {fr to : Int} (h0 : 0 ≤ fr ∧ fr ≤ 2147483647) (h1 : to ≤ 2147483647 ∧ (0 ≤ to ∨ to = -1)) (h2 : fr ≤ to ∨ to = -1) : fewF 10 2 fr to [] 0 = true := by
  simp only [fewF, rightF, aloneF, Bool.and_eq_true, Bool.or_eq_true, decide_eq_true_eq]
  have b1 : leastF 10 = 2 := rfl
  have b2 : mostF 10 = 2 := rfl
  have b3 : opOK 10 = true := rfl
  have b4 : lenI ([] : List (den TermT)) = 0 := rfl
  have b5 : timedF 10 = true := rfl
  rw [b1, b2, b3, b4, b5]
  simp
  omega
theorem core_not_parts {x : den NodeT} {l : List (den NodeT)} (h : isCoreF (x :: l) = true) (h3 : isOpF (x :: l) 3 = true) : l ∈ partsF (x :: l) := by
  have hc := core_not h h3
  have hs := partsF_spec (core_parts h)
  rw [hc.1] at hs ⊢
  have hlen : lenI (partsF ((3, 1, 0, 0, [], 0) :: l)) = 1 := hs.2.1
  cases hps : partsF ((3, 1, 0, 0, [], 0) :: l) with
  | nil => rw [hps] at hlen; simp [lenI] at hlen
  | cons p r =>
    rw [hps] at hlen hs
    have hr : r = [] := len_zero.1 (by rw [len_cons] at hlen; omega)
    subst hr
    have hf := hs.1
    rw [List.flatten_cons, List.flatten_nil, List.append_nil] at hf
    rw [hf]; exact List.mem_cons_self
theorem isOp_false {n : List (den NodeT)} {k : Int} (hk : k ≠ -1) (h : isOpF n k = false) : headOp n ≠ k := by
  rw [headOp_is hk] at h; exact of_decide_eq_false h
theorem coreOK_not {n : List (den NodeT)} (h : coreOK n) : coreOK (notF n) := by
  cases h0 : isOpF n 0 with
  | true => have : notF n = [nd 1] := by unfold notF; rw [h0]; rfl
            rw [this]; exact coreOK_nd (.inr rfl)
  | false =>
    cases h1 : isOpF n 1 with
    | true => have : notF n = [nd 0] := by unfold notF; rw [h0, h1]; rfl
              rw [this]; exact coreOK_nd (.inl rfl)
    | false =>
      cases h3 : isOpF n 3 with
      | true =>
        have e : notF n = n.drop 1 := by unfold notF; rw [h0, h1, h3]; rfl
        rw [e]
        cases n with
        | nil => cases h3
        | cons x l => exact (coreOK_part h (core_not_parts h.1 h3)).1
      | false =>
        have e : notF n = makeF 3 0 0 [] 0 [n] := by unfold notF; rw [h0, h1, h3]; rfl
        rw [e]
        refine coreOK_make (fun p hp => ?_) few_3
        rw [List.mem_singleton] at hp
        subst hp
        exact ⟨h, ⟨fun _ => ⟨isOp_false (by decide) h3, isOp_false (by decide) h0, isOp_false (by decide) h1⟩, fun hc => absurd hc (by decide), fun hc => absurd hc (by decide)⟩⟩
theorem coreOK_prev {n : List (den NodeT)} (h : coreOK n) : coreOK (prevF n) := by
  cases h1 : isOpF n 1 with
  | true => have : prevF n = n := by unfold prevF; rw [h1]; rfl
            rw [this]; exact h
  | false =>
    have : prevF n = makeF 7 0 0 [] 0 [n] := by unfold prevF; rw [h1]; rfl
    rw [this]
    refine coreOK_make (fun p hp => ?_) few_7
    rw [List.mem_singleton] at hp
    subst hp
    exact ⟨h, ⟨fun hc => absurd hc (by decide), fun hc => absurd hc (by decide), fun _ => isOp_false (by decide) h1⟩⟩
theorem coreOK_since {fr to : Int} {p q : List (den NodeT)} (hp : coreOK p) (hq : coreOK q) (h0 : 0 ≤ fr ∧ fr ≤ 2147483647) (h1 : to ≤ 2147483647 ∧ (0 ≤ to ∨ to = -1)) : coreOK (sinceF fr to p q) := by
  unfold sinceF
  split
  · exact coreOK_nd (.inr rfl)
  · rename_i hc
    split
    · exact hq
    · split
      · exact hq
      · split
        · exact coreOK_nd (.inr rfl)
        · refine coreOK_make (fun m hm => ?_) (few_10 h0 h1 ?_)
          · simp only [List.mem_cons, List.not_mem_nil, or_false] at hm
            have ck : ∀ c, childOK 10 c := fun c => ⟨fun h => absurd h (by decide), fun h => absurd h (by decide), fun h => absurd h (by decide)⟩
            rcases hm with rfl | rfl
            · exact ⟨hp, ck _⟩
            · exact ⟨hq, ck _⟩
          · by_cases h2 : to = -1
            · exact .inr h2
            · exact .inl (Int.not_lt.1 fun h3 => hc (.inr ⟨h2, h3⟩))
theorem coreOK_flat {l : List (List (den NodeT))} (h : ∀ n ∈ l, coreOK n) : ∀ m ∈ flatF l, coreOK m ∧ headOp m ≠ 5 ∧ headOp m ≠ 1 := by
  intro m hm
  have h1 := isOp_false (by decide) ((flat_nodup l).2 m hm)
  rcases (ded_size (allF l) []).2 m hm with h2 | h2
  · cases h2
  · unfold allF at h2
    rw [List.mem_flatMap] at h2
    obtain ⟨n, hn, hm2⟩ := h2
    split at hm2
    · rename_i h5
      have hc := coreOK_part (h n hn) hm2
      have h5' : headOp n = 5 := by rw [headOp_is (by decide)] at h5; exact of_decide_eq_true h5
      exact ⟨hc.1, (hc.2.2.1 h5').1, h1⟩
    · rename_i h5
      rw [List.mem_singleton] at hm2
      subst hm2
      exact ⟨h m hn, isOp_false (by decide) (by simpa using h5), h1⟩
theorem coreOK_or {l : List (List (den NodeT))} (h : ∀ n ∈ l, coreOK n) : coreOK (corF l) := by
  have hf := coreOK_flat h
  have ho : corF l = orFl (flatF l) := rfl
  rw [ho]
  generalize flatF l = f at hf
  cases hy : saysYes f with
  | true => rw [yes_in hy]; exact coreOK_nd (.inl rfl)
  | false =>
    match f with
    | [] => exact coreOK_nd (.inr rfl)
    | [n] =>
      unfold orFl
      rw [if_neg (by rw [hy]; simp)]
      exact (hf n List.mem_cons_self).1
    | n :: m :: r =>
      have hl : 2 ≤ lenI (n :: m :: r) := by have := lenI_nn r; rw [len_cons, len_cons]; omega
      rw [orFl_two hy hl]
      refine coreOK_make (fun p hp => ?_) (few_5 hl)
      have hc := hf p hp
      have h0 : headOp p ≠ 0 := by
        refine isOp_false (by decide) ?_
        cases h0 : isOpF p 0 with
        | false => rfl
        | true => rw [yes_of hp (.inl h0)] at hy; cases hy
      exact ⟨hc.1, ⟨fun hc => absurd hc (by decide), fun _ => ⟨hc.2.1, h0, hc.2.2⟩, fun hc => absurd hc (by decide)⟩⟩
theorem coreOK_and {l : List (List (den NodeT))} (h : ∀ n ∈ l, coreOK n) : coreOK (candF l) := by
  refine coreOK_not (coreOK_or fun m hm => ?_)
  unfold nots at hm
  rw [List.mem_map] at hm
  obtain ⟨n, hn, rfl⟩ := hm
  exact coreOK_not (h n hn)
def rightB (x : den NodeT) : Prop := rightF x.1 x.2.1 x.2.2.1 x.2.2.2.1 x.2.2.2.2.1 x.2.2.2.2.2 = true
theorem coreOK_norm : ∀ (k : Nat) (n : List (den NodeT)), n.length ≤ k → okT n → (∀ x ∈ n, rightB x) → coreOK (normF n)
  | 0, n, hk, h, _ => by
    have : n = [] := List.length_eq_zero_iff.1 (by omega)
    subst this
    exact absurd rfl (partsB_iff.1 h.1).1
  | k + 1, [], hk, h, _ => absurd rfl (partsB_iff.1 h.1).1
  | k + 1, x :: l, hk, h, hr => by
    have hsp := partsF_spec h.1
    have ih : ∀ p ∈ partsF (x :: l), coreOK (normF p) := fun p hp => by
      have := okT_part h hp
      exact coreOK_norm k p (by omega) this.1 fun y hy => hr y ((partsF_mem hp).1 y hy)
    obtain ⟨ps, hps⟩ : ∃ ps, normsF (partsF (x :: l)) = ps := ⟨_, rfl⟩
    have hall : ∀ m ∈ ps, coreOK m := fun m hm => by
      rw [← hps] at hm
      unfold normsF at hm
      rw [List.mem_map] at hm
      obtain ⟨p, hp, rfl⟩ := hm
      exact ih p hp
    have hpl : lenI ps = x.2.1 := by rw [← hps, ← hsp.2.1]; simp [normsF, lenI]
    rw [normF_eq, hps]
    have hrx := hr x List.mem_cons_self
    have har := (h.2.1 x List.mem_cons_self).2
    obtain ⟨xo, xn, xf, xt, ts, xm, rfl⟩ : ∃ (q1 q2 q3 q4 : Int) (q5 : List (den TermT)) (q6 : Int), x = (q1, q2, q3, q4, q5, q6) := ⟨_, _, _, _, _, _, rfl⟩
    have hrx' : rightF xo xn xf xt ts xm = true := hrx
    have har1 : xo = 3 ∨ xo = 7 ∨ xo = 8 ∨ xo = 9 → xn = 1 := har.1
    have har2 : xo = 6 ∨ xo = 10 → xn = 2 := har.2
    have hpl' : lenI ps = xn := hpl
    have g0 : 1 ≤ lenI ps → coreOK (at0 ps) := fun hl => by
      cases ps with
      | nil => simp [lenI] at hl
      | cons p r => exact hall p List.mem_cons_self
    have g1 : 2 ≤ lenI ps → coreOK (at1 ps) := fun hl => by
      match ps with
      | [] => simp [lenI] at hl
      | [p] => simp [lenI] at hl
      | p :: q :: r => exact hall q (List.mem_cons_of_mem _ List.mem_cons_self)
    have hb : (0 ≤ xf ∧ xf ≤ 2147483647) ∧ (xt ≤ 2147483647 ∧ (0 ≤ xt ∨ xt = -1)) ∧ aloneF xo xn xf xt ts xm = true := by
      simp only [rightF, Bool.and_eq_true, Bool.or_eq_true, decide_eq_true_eq] at hrx'
      obtain ⟨⟨⟨⟨⟨b0, b1⟩, b2⟩, b3⟩, b4⟩, b5⟩ := hrx'
      exact ⟨⟨b1, b2⟩, ⟨b3, b4⟩, b0⟩
    have t0 : coreOK [nd 0] := coreOK_nd (.inl rfl)
    unfold stepN
    dsimp only
    by_cases e3 : xo = 3
    · rw [if_pos e3]; have := har1 (.inl e3); exact coreOK_not (g0 (by omega))
    rw [if_neg e3]
    by_cases e4 : xo = 4
    · rw [if_pos e4]; exact coreOK_and hall
    rw [if_neg e4]
    by_cases e5 : xo = 5
    · rw [if_pos e5]; exact coreOK_or hall
    rw [if_neg e5]
    by_cases e6 : xo = 6
    · rw [if_pos e6]
      have := har2 (.inl e6)
      refine coreOK_or fun m hm => ?_
      simp only [List.mem_cons, List.not_mem_nil, or_false] at hm
      rcases hm with rfl | rfl
      · exact coreOK_not (g0 (by omega))
      · exact g1 (by omega)
    rw [if_neg e6]
    by_cases e7 : xo = 7
    · rw [if_pos e7]; have := har1 (.inr (.inl e7)); exact coreOK_prev (g0 (by omega))
    rw [if_neg e7]
    by_cases e8 : xo = 8
    · rw [if_pos e8]; have := har1 (.inr (.inr (.inl e8))); exact coreOK_since t0 (g0 (by omega)) hb.1 hb.2.1
    rw [if_neg e8]
    by_cases e9 : xo = 9
    · rw [if_pos e9]; have := har1 (.inr (.inr (.inr e9))); exact coreOK_not (coreOK_since t0 (coreOK_not (g0 (by omega))) hb.1 hb.2.1)
    rw [if_neg e9]
    by_cases e10 : xo = 10
    · rw [if_pos e10]; have := har2 (.inr e10); exact coreOK_since (g0 (by omega)) (g1 (by omega)) hb.1 hb.2.1
    rw [if_neg e10]
    have hop : xo = 0 ∨ xo = 1 ∨ xo = 2 := by
      have h1 := hb.2.2
      simp only [aloneF, Bool.and_eq_true, opOK, decide_eq_true_eq] at h1
      obtain ⟨⟨⟨⟨a1, _⟩, _⟩, _⟩, _⟩ := h1
      omega
    have hn0 : xn = 0 := by
      have h1 := hb.2.2
      simp only [aloneF, Bool.and_eq_true, Bool.or_eq_true, decide_eq_true_eq] at h1
      obtain ⟨⟨⟨⟨_, a2⟩, _⟩, _⟩, a5⟩ := h1
      have b1 : leastF xo = 0 := by rcases hop with rfl | rfl | rfl <;> rfl
      have b2 : mostF xo = 0 := by rcases hop with rfl | rfl | rfl <;> rfl
      rw [b1] at a2
      rw [b2] at a5
      omega
    have hp0 : partsF ((xo, xn, xf, xt, ts, xm) :: l) = [] := len_zero.1 (by rw [hsp.2.1]; exact hn0)
    have hl0 : l = [] := by have := hsp.1; rw [hp0] at this; exact this.symm
    subst hl0
    refine ⟨core_of h.1 fun y hy => ?_, good_of fun p hp => by rw [hp0] at hp; cases hp⟩
    rw [List.mem_singleton] at hy
    subst hy
    unfold idxFew_p notB
    dsimp only
    have : fewF xo xn xf xt ts xm = true := by
      unfold fewF
      rw [hrx', Bool.and_true]
      rcases hop with rfl | rfl | rfl <;> simp
    rw [this]; rfl
/-- One behind the other. -/
def adj : List (den NodeT) → Prop
  | [] => True
  | x :: l => (match l with | [] => True | y :: _ => childOK x.1 y.1) ∧ adj l
def leafOp (op : Int) : Prop := op ≠ 3 ∧ op ≠ 5 ∧ op ≠ 7
theorem child_leaf {op c : Int} (h : leafOp op) : childOK op c := ⟨fun e => absurd e h.1, fun e => absurd e h.2.1, fun e => absurd e h.2.2⟩
def lastLeaf : List (den NodeT) → Prop
  | [] => False
  | [x] => leafOp x.1
  | _ :: y :: l => lastLeaf (y :: l)
theorem adj_app : ∀ {p q : List (den NodeT)}, adj p → lastLeaf p → adj q → adj (p ++ q)
  | [], q, _, h, _ => h.elim
  | [x], q, hp, hl, hq => by
    refine ⟨?_, hq⟩
    cases q with
    | nil => trivial
    | cons y r => exact child_leaf hl
  | x :: y :: l, q, hp, hl, hq => ⟨hp.1, adj_app (p := y :: l) hp.2 hl hq⟩
theorem last_app : ∀ {p q : List (den NodeT)}, lastLeaf q → lastLeaf (p ++ q)
  | [], q, h => h
  | [x], q, h => by
    cases q with
    | nil => exact h.elim
    | cons y r => exact h
  | x :: y :: l, q, h => last_app (p := y :: l) h
theorem adj_flat : ∀ (f : List (List (den NodeT))), (∀ p ∈ f, adj p ∧ lastLeaf p) → adj f.flatten ∧ (f ≠ [] → lastLeaf f.flatten)
  | [], _ => ⟨trivial, fun h => absurd rfl h⟩
  | p :: r, h => by
    have ih := adj_flat r fun q hq => h q (List.mem_cons_of_mem _ hq)
    have hp := h p List.mem_cons_self
    rw [List.flatten_cons]
    refine ⟨adj_app hp.1 hp.2 ih.1, fun _ => ?_⟩
    cases r with
    | nil => rw [List.flatten_nil, List.append_nil]; exact hp.2
    | cons q r => exact last_app (ih.2 (by simp))
theorem core_adj : ∀ (k : Nat) (n : List (den NodeT)), n.length ≤ k → coreOK n → adj n ∧ lastLeaf n
  | 0, n, hk, h => by
    have : n = [] := List.length_eq_zero_iff.1 (by omega)
    subst this
    exact absurd rfl (partsB_iff.1 (core_parts h.1)).1
  | k + 1, [], hk, h => absurd rfl (partsB_iff.1 (core_parts h.1)).1
  | k + 1, x :: l, hk, h => by
    have hsp := partsF_spec (core_parts h.1)
    have hp : ∀ p ∈ partsF (x :: l), adj p ∧ lastLeaf p := fun p hp => by
      have hm := (partsF_mem hp).2.1
      exact core_adj k p (by unfold lenI at hm; simp only [List.length_cons] at *; omega) (coreOK_part h hp).1
    have hf := adj_flat _ hp
    rw [hsp.1] at hf
    cases hps : partsF (x :: l) with
    | nil =>
      rw [hps] at hsp
      have hl : l = [] := hsp.1.symm
      have hn : x.2.1 = 0 := hsp.2.1.symm
      subst hl
      refine ⟨⟨trivial, trivial⟩, ?_⟩
      obtain ⟨xo, xn, xf, xt, ts, xm, rfl⟩ : ∃ (q1 q2 q3 q4 : Int) (q5 : List (den TermT)) (q6 : Int), x = (q1, q2, q3, q4, q5, q6) := ⟨_, _, _, _, _, _, rfl⟩
      have hx' := few_of h.1 (List.mem_cons_self (a := (xo, xn, xf, xt, ts, xm)) (l := []))
      simp only [fewF, rightF, aloneF, Bool.and_eq_true, Bool.or_eq_true, decide_eq_true_eq] at hx'
      obtain ⟨_, ⟨⟨⟨⟨⟨⟨⟨⟨_, a2⟩, _⟩, _⟩, _⟩, _⟩, _⟩, _⟩, _⟩, _⟩ := hx'
      have hn' : xn = 0 := hn
      rw [hn'] at a2
      show leafOp xo
      refine ⟨?_, ?_, ?_⟩ <;> (rintro rfl; have : ¬ ((0 : Int) ≥ 1) := by decide)
      · exact this a2
      · exact absurd a2 (by decide)
      · exact this a2
    | cons p r =>
      have hne : partsF (x :: l) ≠ [] := by rw [hps]; simp
      have hpm : p ∈ partsF (x :: l) := by rw [hps]; exact List.mem_cons_self
      have hl : l = p ++ r.flatten := by rw [← hsp.1, hps, List.flatten_cons]
      have hc := (coreOK_part h hpm).2
      have hpn := (partsB_iff.1 (hsp.2.2.2 p hpm)).1
      cases p with
      | nil => exact absurd rfl hpn
      | cons y q =>
        have hl2 : l = y :: (q ++ r.flatten) := by rw [hl]; rfl
        subst hl2
        exact ⟨⟨hc, hf.1⟩, hf.2 hne⟩
theorem adj_nth : ∀ {n : List (den NodeT)} {i : Nat}, adj n → i + 1 < n.length → childOK (nth NodeT n (i : Int)).1 (nth NodeT n ((i + 1 : Nat) : Int)).1
  | [], i, _, h => by simp at h
  | [x], i, _, h => by simp at h
  | x :: y :: l, 0, h, _ => h.1
  | x :: y :: l, i + 1, h, hi => by
    have := adj_nth (n := y :: l) (i := i) h.2 (by simpa using hi)
    exact this
end Go.Proofs.Ytmdjpohmbkodeaa.Sx

