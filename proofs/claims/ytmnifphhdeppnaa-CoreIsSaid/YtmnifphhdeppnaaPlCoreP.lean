/- Ors and ands: plain laws. -/
import Derived.Test.YtmnifphhdeppnaaSmCoreL
namespace Go.Proofs.Ytmnifphhdeppnaa.Sx
open Go.RowKit
set_option maxRecDepth 100000
set_option linter.unusedVariables false
set_option linter.unusedSimpArgs false
theorem light_len {n : List (den NodeT)} (h : lightF n = true) : lenI n ≤ 310 := by
  simp only [lightF, Bool.and_eq_true, decide_eq_true_eq] at h
  exact h.1
theorem light_tree {n : List (den NodeT)} (h : lightF n = true) : treeOK n := by
  have hl := light_len h
  simp only [lightF, Bool.and_eq_true, decide_eq_true_eq, List.all_eq_true] at h
  refine treeOK_of (fun x hx => ?_) (by omega)
  have := h.2 x hx
  simp only [lightN, Bool.and_eq_true, decide_eq_true_eq] at this
  have := this.1
  unfold fits; omega
theorem tfs_nil : allTF [] := fun m hm => by cases hm
theorem tfs_cons {n : List (den NodeT)} {l : List (List (den NodeT))} (h : termsFit n) (k : allTF l) : allTF (n :: l) := fun m hm => by
  rw [List.mem_cons] at hm
  rcases hm with rfl | hm
  · exact h
  · exact k m hm
theorem sameF_self (a : List (den NodeT)) : sameF a a = true := by simp [sameF]
theorem sameF_iff {a b : List (den NodeT)} : sameF a b = true ↔ a = b := by simp [sameF]
theorem hasF_iff {l : List (List (den NodeT))} {n : List (den NodeT)} : hasF l n = true ↔ n ∈ l := by
  simp only [hasF, List.any_eq_true, sameF_iff]
  constructor
  · rintro ⟨x, hx, rfl⟩; exact hx
  · intro h; exact ⟨n, h, rfl⟩
theorem ded_app : ∀ (l m out : List (List (den NodeT))), dedG out (l ++ m) = dedG (dedG out l) m
  | [], m, out => rfl
  | n :: l, m, out => by
    simp only [List.cons_append, dedG]
    split
    · exact ded_app l m out
    · exact ded_app l m (out ++ [n])
theorem ded_keep : ∀ (l out : List (List (den NodeT))) {m : List (den NodeT)}, m ∈ out → m ∈ dedG out l
  | [], out, m, h => h
  | n :: l, out, m, h => by
    simp only [dedG]
    split
    · exact ded_keep l out h
    · exact ded_keep l (out ++ [n]) (List.mem_append.2 (.inl h))
theorem ded_all : ∀ (l out : List (List (den NodeT))) {m : List (den NodeT)}, m ∈ l → isOpF m 1 = true ∨ m ∈ dedG out l
  | n :: l, out, m, h => by
    simp only [dedG]
    rw [List.mem_cons] at h
    rcases h with rfl | h
    · split
      · rename_i hc
        rcases hc with hc | hc
        · exact .inl hc
        · exact .inr (ded_keep l out (hasF_iff.1 hc))
      · exact .inr (ded_keep l _ (List.mem_append.2 (.inr (List.mem_singleton.2 rfl))))
    · split
      · exact ded_all l out h
      · exact ded_all l _ h
theorem ded_skip : ∀ (l out : List (List (den NodeT))), (∀ m ∈ l, isOpF m 1 = true ∨ m ∈ out) → dedG out l = out
  | [], out, _ => rfl
  | n :: l, out, h => by
    simp only [dedG]
    rw [if_pos ((h n List.mem_cons_self).imp id fun h => hasF_iff.2 h)]
    exact ded_skip l out fun m hm => h m (List.mem_cons_of_mem _ hm)
theorem allF_app (l m : List (List (den NodeT))) : allF (l ++ m) = allF l ++ allF m := by simp [allF]
theorem flat_app (l m : List (List (den NodeT))) : flatF (l ++ m) = dedG (flatF l) (allF m) := by
  unfold flatF; rw [allF_app, ded_app]
/-- What is there already changes nothing. -/
theorem flat_again (l : List (List (den NodeT))) : flatF (l ++ l) = flatF l := by
  rw [flat_app]
  exact ded_skip _ _ fun m hm => ded_all (allF l) [] hm
theorem isOp_nd {op k : Int} : isOpF [nd op] k = decide (op = k) := rfl
theorem flat_false (l : List (List (den NodeT))) : flatF (l ++ [[nd 1]]) = flatF l := by
  rw [flat_app]
  refine ded_skip _ _ fun m hm => .inl ?_
  have : allF [[nd 1]] = [[nd 1]] := by decide
  rw [this, List.mem_singleton] at hm
  subst hm; rfl
theorem cor_false (l : List (List (den NodeT))) : corF (l ++ [[nd 1]]) = corF l := by unfold corF; rw [flat_false]
theorem cor_again (l : List (List (den NodeT))) : corF (l ++ l) = corF l := by unfold corF; rw [flat_again]
theorem nd_not : notF [nd 0] = [nd 1] := rfl
theorem cand_true (l : List (List (den NodeT))) : candF (l ++ [[nd 0]]) = candF l := by
  unfold candF
  have : nots (l ++ [[nd 0]]) = nots l ++ [[nd 1]] := by simp only [nots, List.map_append, List.map_cons, List.map_nil]; rfl
  rw [this, cor_false]
theorem cand_again (l : List (List (den NodeT))) : candF (l ++ l) = candF l := by
  unfold candF
  have : nots (l ++ l) = nots l ++ nots l := by simp [nots]
  rw [this, cor_again]
end Go.Proofs.Ytmnifphhdeppnaa.Sx

