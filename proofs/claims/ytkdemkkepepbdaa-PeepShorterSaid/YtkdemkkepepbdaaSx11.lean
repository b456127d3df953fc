/- The framework: a call sees no more than what it is handed. -/
import Derived.Test.YtkdemkkepepbdaaSx10
namespace Go.Proofs.Ytkdemkkepepbdaa.Sx
set_option linter.unusedSectionVars false
set_option linter.unusedVariables false
set_option linter.unusedSimpArgs false
open Go.RowKit

theorem idx_iget : ∀ {is : List Nat} {i j : Nat}, idx is i = some j → iget is j = some i
  | a :: l, i, j, h => by
    simp only [idx] at h
    split at h
    · rename_i hb; cases h; rw [beq_true hb]; rfl
    · split at h
      · rename_i k hk; cases h; simpa [iget] using idx_iget hk
      · cases h
theorem iget_mem : ∀ {is : List Nat} {i j : Nat}, iget is j = some i → i ∈ is
  | a :: l, i, 0, h => by cases h; simp
  | a :: l, i, j + 1, h => List.mem_cons_of_mem _ (iget_mem (by simpa [iget] using h))
theorem idx_mem {is : List Nat} {i j : Nat} (h : idx is i = some j) : i ∈ is := iget_mem (idx_iget h)
theorem idx_of_mem : ∀ {is : List Nat} {i : Nat}, i ∈ is → ∃ j, idx is i = some j
  | a :: l, i, h => by
    simp only [idx]
    cases hb : Nat.beq a i with
    | true => exact ⟨0, rfl⟩
    | false =>
      cases h with
      | head => simp at hb
      | tail _ h =>
        obtain ⟨j, hj⟩ := idx_of_mem h
        exact ⟨j + 1, by simp [hj]⟩
theorem nlen_eq : ∀ l : List Nat, nlen l = l.length
  | [] => rfl
  | _ :: l => by simp [nlen, nlen_eq l]
theorem iget_lt : ∀ {is : List Nat} {i j : Nat}, iget is j = some i → j < is.length
  | a :: l, i, 0, h => by simp
  | a :: l, i, j + 1, h => by have := iget_lt (is := l) (i := i) (j := j) (by simpa [iget] using h); simpa using this
theorem iget_none : ∀ {is : List Nat} {j : Nat}, iget is j = none → is.length ≤ j
  | [], j, h => by simp
  | a :: l, 0, h => by simp [iget] at h
  | a :: l, j + 1, h => by have := iget_none (is := l) (j := j) (by simpa [iget] using h); simpa using this
theorem nodupL_spec : ∀ {l : List Nat}, nodupL l = true → l.Nodup
  | [], _ => List.nodup_nil
  | a :: l, h => by
    simp only [nodupL] at h
    split at h
    · cases h
    · rename_i hm; exact List.nodup_cons.2 ⟨memb_false hm, nodupL_spec h⟩
theorem iget_idx : ∀ {is : List Nat} {i j : Nat}, is.Nodup → iget is j = some i → idx is i = some j
  | a :: l, i, 0, _, h => by cases h; simp [idx]
  | a :: l, i, j + 1, hn, h => by
    have hn := List.nodup_cons.1 hn
    have h' : iget l j = some i := by simpa [iget] using h
    have : a ≠ i := fun e => hn.1 (by rw [e]; exact iget_mem h')
    have hb : Nat.beq a i = false := by
      cases hb : Nat.beq a i with
      | true => exact absurd (beq_true hb) this
      | false => rfl
    simp [idx, hb, iget_idx hn.2 h']
theorem allLt_spec {n : Nat} : ∀ {l : List Nat}, allLt n l = true → ∀ i ∈ l, i < n
  | a :: l, h, i, hi => by
    simp only [allLt] at h
    split at h
    · rename_i hb
      cases hi with
      | head => exact blt_lt hb
      | tail _ hi => exact allLt_spec h i hi
    · cases h
theorem mem_dnS {is : List Nat} {j : Nat} : ∀ {l : List Nat}, j ∈ dnS is l ↔ ∃ i ∈ l, idx is i = some j
  | [] => by simp [dnS]
  | a :: l => by
    simp only [dnS]
    cases h : idx is a with
    | none =>
      simp only [mem_dnS (l := l), List.mem_cons]
      exact ⟨fun ⟨i, h1, h2⟩ => ⟨i, .inr h1, h2⟩, fun ⟨i, h1, h2⟩ => h1.elim (fun e => by rw [e, h] at h2; cases h2) fun h1 => ⟨i, h1, h2⟩⟩
    | some k =>
      simp only [List.mem_cons, mem_dnS (l := l)]
      constructor
      · rintro (rfl | ⟨i, h1, h2⟩)
        · exact ⟨a, .inl rfl, h⟩
        · exact ⟨i, .inr h1, h2⟩
      · rintro ⟨i, (rfl | h1), h2⟩
        · rw [h] at h2; cases h2; exact .inl rfl
        · exact .inr ⟨i, h1, h2⟩
theorem mem_mapN {f : Nat → Nat} {x : Nat} : ∀ {l : List Nat}, x ∈ mapN f l ↔ ∃ j ∈ l, f j = x
  | [] => by simp [mapN]
  | a :: l => by simp only [mapN, List.mem_cons, mem_mapN (l := l)]; constructor
                 · rintro (rfl | ⟨j, h1, h2⟩)
                   · exact ⟨a, .inl rfl, rfl⟩
                   · exact ⟨j, .inr h1, h2⟩
                 · rintro ⟨j, (rfl | h1), h2⟩
                   · exact .inl h2.symm
                   · exact .inr ⟨j, h1, h2⟩
theorem mem_srcsM {m : List Blk} {k : Nat} : ∀ {l : List Nat}, k ∈ srcsM m l ↔ ∃ i ∈ l, k ∈ blkSrcs (mget m i)
  | [] => by simp [srcsM]
  | a :: l => by simp only [srcsM, mem_uniN, mem_srcsM (l := l), List.mem_cons]; constructor
                 · rintro (h | ⟨i, h1, h2⟩)
                   · exact ⟨a, .inl rfl, h⟩
                   · exact ⟨i, .inr h1, h2⟩
                 · rintro ⟨i, (rfl | h1), h2⟩
                   · exact .inl h2
                   · exact .inr ⟨i, h1, h2⟩
theorem dnM_get {m : List Blk} {is' : List Nat} : ∀ {l : List Nat} {j : Nat} {bk : Blk}, (dnM m is' l)[j]? = some bk → ∃ i, iget l j = some i ∧ bk = dnB is' (mget m i)
  | [], j, bk, h => by simp [dnM] at h
  | a :: l, 0, bk, h => by simp only [dnM, List.getElem?_cons_zero, Option.some.injEq] at h; exact ⟨a, rfl, h.symm⟩
  | a :: l, j + 1, bk, h => by simpa [iget] using dnM_get (l := l) (j := j) (by simpa [dnM] using h)
theorem dnM_length {m : List Blk} {is' : List Nat} : ∀ l : List Nat, (dnM m is' l).length = l.length
  | [] => rfl
  | a :: l => by simp [dnM, dnM_length l]
theorem upM_get {f : Nat → Nat} {ss : List Nat} : ∀ {l : List Blk} {j : Nat} {bk : Blk}, (upM f ss l)[j]? = some bk → ∃ b0, l[j]? = some b0 ∧ bk = upB f ss b0
  | [], j, bk, h => by simp [upM] at h
  | a :: l, 0, bk, h => by simp only [upM, List.getElem?_cons_zero, Option.some.injEq] at h; exact ⟨a, rfl, h.symm⟩
  | a :: l, j + 1, bk, h => by simpa using upM_get (l := l) (j := j) (by simpa [upM] using h)
theorem mdrop_eq : ∀ (k : Nat) (l : List Blk), mdrop k l = l.drop k
  | 0, l => rfl
  | k + 1, [] => rfl
  | k + 1, a :: l => by simp [mdrop, mdrop_eq k l]
theorem upM_length {f : Nat → Nat} {ss : List Nat} : ∀ l : List Blk, (upM f ss l).length = l.length
  | [] => rfl
  | a :: l => by simp [upM, upM_length l]
theorem joinM_get {f : Nat → Nat} {is ss k1 k2 : List Nat} {m' : List Blk} : ∀ {l : List Blk} {i j : Nat} {bk : Blk}, (joinM f ss is k1 k2 m' i l)[j]? = some bk →
    (j < l.length ∧ ((∃ k, idx is (i + j) = some k ∧ bk = upB f ss (mget m' k)) ∨ (idx is (i + j) = none ∧ ∃ b0, l[j]? = some b0 ∧ bk = killB k1 k2 b0))) ∨ (l.length ≤ j ∧ ∃ b0, m'[is.length + (j - l.length)]? = some b0 ∧ bk = upB f ss b0)
  | [], i, j, bk, h => by
    simp only [joinM] at h
    obtain ⟨b0, h1, h2⟩ := upM_get h
    rw [mdrop_eq, nlen_eq, List.getElem?_drop] at h1
    exact .inr ⟨by simp, b0, by simpa using h1, h2⟩
  | b :: l, i, 0, bk, h => by
    simp only [joinM, List.getElem?_cons_zero, Option.some.injEq] at h
    refine .inl ⟨by simp, ?_⟩
    simp only [Nat.add_zero]
    cases hi : idx is i with
    | some k => rw [hi] at h; exact .inl ⟨k, rfl, h.symm⟩
    | none => rw [hi] at h; exact .inr ⟨rfl, b, rfl, h.symm⟩
  | b :: l, i, j + 1, bk, h => by
    rcases joinM_get (l := l) (i := i + 1) (j := j) (by simpa [joinM] using h) with ⟨h1, h2⟩ | ⟨h1, h2⟩
    · refine .inl ⟨by simpa using h1, ?_⟩
      rw [show i + (j + 1) = i + 1 + j by omega]
      rcases h2 with h2 | ⟨h2, b0, h3, h4⟩
      · exact .inl h2
      · exact .inr ⟨h2, b0, by simpa using h3, h4⟩
    · obtain ⟨b0, h2, h3⟩ := h2
      exact .inr ⟨by simpa using h1, b0, by simpa using h2, h3⟩
theorem joinM_length {f : Nat → Nat} {is ss k1 k2 : List Nat} {m' : List Blk} : ∀ {l : List Blk} {i : Nat}, (joinM f ss is k1 k2 m' i l).length = l.length + (m'.length - is.length)
  | [], i => by simp [joinM, upM_length, mdrop_eq, nlen_eq]
  | b :: l, i => by simp only [joinM, List.length_cons, joinM_length (l := l)]; omega
theorem DRep.flat {S S' : Nat → Prop} {w : World} : ∀ {t : Ty} {x : den t} {vs : List Value}, flatT t = true → DRep S w t x vs → DRep S' w t x vs
  | .int _, _, _, _, h => h
  | .bool, _, _, _, h => h
  | .str, _, _, _, h => h
  | .list t, _, _, hf, _ => by simp [flatT] at hf
  | .prod a b, x, vs, hf, h => by
    obtain ⟨v1, v2, rfl, h1, h2⟩ := h
    have hab : flatT a = true ∧ flatT b = true := by
      have hf' : andb (flatT a) (flatT b) = true := hf
      revert hf'
      cases flatT a <;> cases flatT b <;> simp [andb]
    exact ⟨v1, v2, rfl, DRep.flat hab.1 h1, DRep.flat hab.2 h2⟩
theorem DRepL.flat {S S' : Nat → Prop} {w : World} {t : Ty} (hf : flatT t = true) : ∀ {xs : List (den t)} {vs : List Value}, DRepL S w t xs vs → DRepL S' w t xs vs
  | [], _, h => h
  | x :: xs, _, h => by
    obtain ⟨v, us, rfl, h1, h2⟩ := h
    exact ⟨v, us, rfl, DRep.flat hf h1, DRepL.flat hf h2⟩

section
variable (E : Env) (is srcs : List Nat) (n : Nat)
/-- What a call is handed, by its own numbers. -/
def Env.small : Env := ⟨fun j => match iget is j with | some i => E.bl i | none => none, fun j => E.sl (upI is n j), fun b => E.T b ∧ ∀ i, E.bl i = some b → i ∈ srcs ∨ i ∈ is⟩
def dnI (i : Nat) : Nat := match idx is i with | some j => j | none => is.length + (i - n)
/-- What it left, by the numbers of who called. -/
def Env.big (F : Env) : Env := ⟨fun i => match idx is i with | some j => F.bl j | none => if i < n then E.bl i else F.bl (is.length + (i - n)),
  fun i => match idx is i with | some j => F.sl j | none => if i < n then E.sl i else F.sl (is.length + (i - n)), E.T⟩
end

section
variable {E : Env} {is srcs : List Nat} {n : Nat} (hnd : is.Nodup) (hlt : ∀ i ∈ is, i < n)
include hnd hlt

theorem up_cases (j : Nat) : (∃ i, iget is j = some i ∧ upI is n j = i ∧ idx is i = some j) ∨ (is.length ≤ j ∧ upI is n j = n + (j - is.length) ∧ idx is (upI is n j) = none) := by
  cases h : iget is j with
  | some i => exact .inl ⟨i, rfl, by simp [upI, h], iget_idx hnd h⟩
  | none =>
    have hu : upI is n j = n + (j - is.length) := by simp [upI, h, nlen_eq]
    refine .inr ⟨iget_none h, hu, ?_⟩
    cases hi : idx is (upI is n j) with
    | none => rfl
    | some k => have := hlt _ (idx_mem hi); omega
theorem big_bl (F : Env) (j : Nat) : (E.big is n F).bl (upI is n j) = F.bl j := by
  rcases up_cases hnd hlt j with ⟨i, h1, h2, h3⟩ | ⟨h1, h2, h3⟩
  · rw [h2]; simp [Env.big, h3]
  · simp only [Env.big, h3]
    rw [h2, if_neg (by omega), show is.length + (n + (j - is.length) - n) = j by omega]
theorem big_sl (F : Env) (j : Nat) : (E.big is n F).sl (upI is n j) = F.sl j := by
  rcases up_cases hnd hlt j with ⟨i, h1, h2, h3⟩ | ⟨h1, h2, h3⟩
  · rw [h2]; simp [Env.big, h3]
  · simp only [Env.big, h3]
    rw [h2, if_neg (by omega), show is.length + (n + (j - is.length) - n) = j by omega]
/-- which name of the big one is one of the call's -/
theorem big_of (i : Nat) : (∃ j, i = upI is n j) ∨ (i < n ∧ idx is i = none) := by
  cases h : idx is i with
  | some j => exact .inl ⟨j, by simp [upI, idx_iget h]⟩
  | none =>
    by_cases hi : i < n
    · exact .inr ⟨hi, rfl⟩
    · refine .inl ⟨is.length + (i - n), ?_⟩
      have : iget is (is.length + (i - n)) = none := by
        cases hg : iget is (is.length + (i - n)) with
        | none => rfl
        | some k => have := iget_lt hg; omega
      simp only [upI, this, nlen_eq]; omega
theorem big_bl_other {F : Env} {i : Nat} (hi : i < n) (h : idx is i = none) : (E.big is n F).bl i = E.bl i := by simp [Env.big, h, hi]
theorem big_sl_other {F : Env} {i : Nat} (hi : i < n) (h : idx is i = none) : (E.big is n F).sl i = E.sl i := by simp [Env.big, h, hi]

theorem small_ok {src : List Nat} {b : Nat} (hs : ∀ i ∈ src, i ∈ srcs) (h : E.ok src b) : (E.small is srcs n).ok (dnS is src) b := by
  refine ⟨⟨h.1, fun i hi => .inl (hs i (h.2 i hi))⟩, fun j hj => ?_⟩
  simp only [Env.small] at hj
  split at hj
  · rename_i i hi
    exact mem_dnS.2 ⟨i, h.2 i hj, iget_idx hnd hi⟩
  · cases hj

mutual
theorem Rel.dn {w : World} : ∀ {a : AV} {v : Value}, (∀ i ∈ srcsV a, i ∈ srcs) → Rel E w a v → Rel (E.small is srcs n) w (Sx.dn is a) v
  | .bad, v, _, h => by simp [Sx.dn, Rel]
  | .und, v, _, h => by simpa [Sx.dn, Rel] using h
  | .int _ _, v, _, h => by simpa [Sx.dn, Rel] using h
  | .bool _, v, _, h => by simpa [Sx.dn, Rel] using h
  | .str _, v, _, h => by simpa [Sx.dn, Rel] using h
  | .nilp, v, _, h => by simpa [Sx.dn, Rel] using h
  | .nsl _, v, _, h => by simpa [Sx.dn, Rel] using h
  | .nilfn, v, _, h => by simpa [Sx.dn, Rel] using h
  | .nilif, v, _, h => by simpa [Sx.dn, Rel] using h
  | .view s t xs, v, hs, h => by
    simp only [Sx.dn, Rel] at h ⊢
    simp only [srcsV] at hs
    exact DRep.keep (t := .list t) (fun b hb _ => ⟨small_ok hnd hlt hs hb, fun _ _ h => h⟩) h
  | .vptr s cells, v, hs, h => by
    simp only [Sx.dn, Rel] at h ⊢
    simp only [srcsV] at hs
    obtain ⟨b, off, vs, rfl, hok, hc, hr, hne⟩ := h
    refine ⟨b, off, vs, rfl, small_ok hnd hlt (fun i hi => hs i (mem_uniN.2 (.inl hi))) hok, hc, RelL.dn (fun i hi => hs i (mem_uniN.2 (.inr hi))) hr, ?_⟩
    cases cells with
    | nil => exact absurd rfl hne
    | cons a l => simp [dnL]
  | .ptr i off, v, _, h => by
    simp only [Sx.dn]
    split
    · rename_i j hj
      obtain ⟨b, hb, rfl⟩ := h
      exact ⟨b, by simp [Env.small, idx_iget hj, hb], rfl⟩
    · simp [Rel]
  | .vsl i off len cap, v, _, h => by
    simp only [Sx.dn]
    split
    · rename_i j hj
      obtain ⟨b, hb, rfl⟩ := h
      exact ⟨b, by simp [Env.small, idx_iget hj, hb], rfl⟩
    · simp [Rel]
  | .own i, v, _, h => by
    simp only [Sx.dn]
    split
    · rename_i j hj
      obtain ⟨rfl, h⟩ := h
      exact ⟨by simp [Env.small, upI, idx_iget hj], h⟩
    · simp [Rel]
  | .sub i k, v, _, h => by
    simp only [Sx.dn]
    split
    · rename_i j hj
      obtain ⟨a, l, c, he, h⟩ := h
      exact ⟨a, l, c, by rw [← he]; simp [Env.small, upI, idx_iget hj], h⟩
    · simp [Rel]
  | .rptr i t ix off, v, _, h => by
    simp only [Sx.dn]
    split
    · rename_i j hj
      obtain ⟨b, hb, rfl⟩ := h
      exact ⟨b, by simp [Env.small, idx_iget hj, hb], rfl⟩
    · simp [Rel]
  | .agg l, v, hs, h => by
    simp only [Sx.dn, Rel] at h ⊢
    obtain ⟨vs, rfl, h⟩ := h
    exact ⟨vs, rfl, RelL.dn (by simpa [srcsV] using hs) h⟩
  | .tup l, v, hs, h => by
    simp only [Sx.dn, Rel] at h ⊢
    obtain ⟨vs, rfl, h⟩ := h
    exact ⟨vs, rfl, RelL.dn (by simpa [srcsV] using hs) h⟩
  | .fn f a b, v, hs, h => by
    simp only [Sx.dn, Rel] at h ⊢
    simp only [srcsV] at hs
    obtain ⟨x, y, rfl, h1, h2⟩ := h
    exact ⟨x, y, rfl, RelL.dn (fun i hi => hs i (mem_uniN.2 (.inl hi))) h1, RelL.dn (fun i hi => hs i (mem_uniN.2 (.inr hi))) h2⟩
  | .iface t x, v, hs, h => by
    simp only [Sx.dn, Rel] at h ⊢
    obtain ⟨u, rfl, h⟩ := h
    exact ⟨u, rfl, Rel.dn (by simpa [srcsV] using hs) h⟩
theorem RelL.dn {w : World} : ∀ {l : List AV} {vs : List Value}, (∀ i ∈ srcsL l, i ∈ srcs) → RelL E w l vs → RelL (E.small is srcs n) w (dnL is l) vs
  | [], vs, _, h => by simpa [dnL, RelL] using h
  | a :: l, vs, hs, h => by
    simp only [dnL, RelL] at h ⊢
    obtain ⟨v, us, rfl, h1, h⟩ := h
    simp only [srcsL] at hs
    exact ⟨v, us, rfl, Rel.dn (fun i hi => hs i (mem_uniN.2 (.inl hi))) h1, RelL.dn (fun i hi => hs i (mem_uniN.2 (.inr hi))) h⟩
end

/-- What may be read behind the call, by the numbers of who called. -/
theorem big_ok {B : Base} {m : List Blk} {w : World} (hM : SatM B E m w) (hn : n = m.length) {F : Env} (hT : ∀ b, F.T b → (E.small is srcs n).T b ∨ w.heap.size ≤ b) {src : List Nat} {b : Nat} (h : F.ok src b) :
    (E.big is n F).ok (uniN (mapN (upI is n) src) srcs) b := by
  have hE : E.T b := by
    rcases hT b h.1 with h1 | h1
    · exact h1.1
    · exact (hM.T b).2 (.inr (Nat.le_trans hM.size h1))
  refine ⟨hE, fun i hi => mem_uniN.2 ?_⟩
  rcases big_of hnd hlt i with ⟨j, rfl⟩ | ⟨h1, h2⟩
  · rw [big_bl hnd hlt] at hi
    exact .inl (mem_mapN.2 ⟨j, h.2 j hi, rfl⟩)
  · rw [big_bl_other hnd hlt h1 h2] at hi
    rcases hT b h.1 with h3 | h3
    · rcases h3.2 i hi with h4 | h4
      · exact .inr h4
      · obtain ⟨j, hj⟩ := idx_of_mem h4; rw [hj] at h2; cases h2
    · have := (hM.old i b hi).2; omega

mutual
theorem Rel.up {F : Env} {w' : World} (hok : ∀ src b, F.ok src b → (E.big is n F).ok (uniN (mapN (upI is n) src) srcs) b) : ∀ {a : AV} {v : Value}, Rel F w' a v → Rel (E.big is n F) w' (Sx.up (upI is n) srcs a) v
  | .bad, v, h => by simp [Sx.up, Rel]
  | .und, v, h => by simpa [Sx.up, Rel] using h
  | .int _ _, v, h => by simpa [Sx.up, Rel] using h
  | .bool _, v, h => by simpa [Sx.up, Rel] using h
  | .str _, v, h => by simpa [Sx.up, Rel] using h
  | .nilp, v, h => by simpa [Sx.up, Rel] using h
  | .nsl _, v, h => by simpa [Sx.up, Rel] using h
  | .nilfn, v, h => by simpa [Sx.up, Rel] using h
  | .nilif, v, h => by simpa [Sx.up, Rel] using h
  | .view s t xs, v, h => by
    simp only [Sx.up, Rel] at h ⊢
    exact DRep.keep (t := .list t) (fun b hb _ => ⟨hok _ b hb, fun _ _ h => h⟩) h
  | .vptr s cells, v, h => by
    simp only [Sx.up, Rel] at h ⊢
    obtain ⟨b, off, vs, rfl, ho, hc, hr, hne⟩ := h
    refine ⟨b, off, vs, rfl, hok _ b ho, hc, RelL.up hok hr, ?_⟩
    cases cells with
    | nil => exact absurd rfl hne
    | cons a l => simp [upL]
  | .ptr i off, v, h => by
    simp only [Sx.up, Rel] at h ⊢
    obtain ⟨b, hb, rfl⟩ := h
    exact ⟨b, by rw [big_bl hnd hlt]; exact hb, rfl⟩
  | .vsl i off len cap, v, h => by
    simp only [Sx.up, Rel] at h ⊢
    obtain ⟨b, hb, rfl⟩ := h
    exact ⟨b, by rw [big_bl hnd hlt]; exact hb, rfl⟩
  | .own i, v, h => by
    simp only [Sx.up, Rel] at h ⊢
    rw [big_sl hnd hlt]; exact h
  | .sub i k, v, h => by
    simp only [Sx.up, Rel] at h ⊢
    rw [big_sl hnd hlt]; exact h
  | .rptr i t ix off, v, h => by
    simp only [Sx.up, Rel] at h ⊢
    obtain ⟨b, hb, rfl⟩ := h
    exact ⟨b, by rw [big_bl hnd hlt]; exact hb, rfl⟩
  | .agg l, v, h => by
    simp only [Sx.up, Rel] at h ⊢
    obtain ⟨vs, rfl, h⟩ := h
    exact ⟨vs, rfl, RelL.up hok h⟩
  | .tup l, v, h => by
    simp only [Sx.up, Rel] at h ⊢
    obtain ⟨vs, rfl, h⟩ := h
    exact ⟨vs, rfl, RelL.up hok h⟩
  | .fn f a b, v, h => by
    simp only [Sx.up, Rel] at h ⊢
    obtain ⟨x, y, rfl, h1, h2⟩ := h
    exact ⟨x, y, rfl, RelL.up hok h1, RelL.up hok h2⟩
  | .iface t x, v, h => by
    simp only [Sx.up, Rel] at h ⊢
    obtain ⟨u, rfl, h⟩ := h
    exact ⟨u, rfl, Rel.up hok h⟩
theorem RelL.up {F : Env} {w' : World} (hok : ∀ src b, F.ok src b → (E.big is n F).ok (uniN (mapN (upI is n) src) srcs) b) : ∀ {l : List AV} {vs : List Value}, RelL F w' l vs → RelL (E.big is n F) w' (upL (upI is n) srcs l) vs
  | [], vs, h => by simpa [upL, RelL] using h
  | a :: l, vs, h => by
    simp only [upL, RelL] at h ⊢
    obtain ⟨v, us, rfl, h1, h⟩ := h
    exact ⟨v, us, rfl, Rel.up hok h1, RelL.up hok h⟩
end

theorem SatB.up {F : Env} {w' : World} (hok : ∀ src b, F.ok src b → (E.big is n F).ok (uniN (mapN (upI is n) src) srcs) b) {j : Nat} {bk : Blk} (h : SatB F w' j bk) : SatB (E.big is n F) w' (upI is n j) (upB (upI is n) srcs bk) := by
  cases bk with
  | dead => trivial
  | var l =>
    obtain ⟨b, vs, T, h1, h2, h3⟩ := h
    exact ⟨b, vs, T, by rw [big_bl hnd hlt]; exact h1, h2, RelL.up hnd hlt hok h3⟩
  | row e t xs src =>
    obtain ⟨hl, cells, h1, h2, h3⟩ := h
    refine ⟨hl, cells, by rw [big_sl hnd hlt]; exact h1, by rw [big_bl hnd hlt, big_sl hnd hlt]; exact h2, ?_⟩
    unfold srcT
    cases hf : flatT t with
    | true => exact DRepL.flat hf h3
    | false => exact h3.keep fun b hb _ => ⟨hok _ b hb, fun _ _ h => h⟩

theorem SatB.dn {w : World} {i j : Nat} {bk : Blk} (hj : iget is j = some i) (hs : ∀ k ∈ blkSrcs bk, k ∈ srcs) (h : SatB E w i bk) : SatB (E.small is srcs n) w j (dnB is bk) := by
  have hbl : (E.small is srcs n).bl j = E.bl i := by simp [Env.small, hj]
  have hsl : (E.small is srcs n).sl j = E.sl i := by simp [Env.small, upI, hj]
  cases bk with
  | dead => trivial
  | var l =>
    obtain ⟨b, vs, T, h1, h2, h3⟩ := h
    exact ⟨b, vs, T, by rw [hbl]; exact h1, h2, RelL.dn hnd hlt hs h3⟩
  | row e t xs src =>
    obtain ⟨hl, cells, h1, h2, h3⟩ := h
    exact ⟨hl, cells, by rw [hsl]; exact h1, by rw [hbl, hsl]; exact h2, h3.keep fun b hb _ => ⟨small_ok hnd hlt hs hb, fun _ _ h => h⟩⟩

end

/-- **A call sees no more than what it is handed.** -/
theorem frame_ok {P : Program} {f : FuncId} {S : List AV → List Blk → AK → Prop} (h : SpecOK P f S) : SpecOK P f (frameS S) := by
  refine ⟨h.step, fun {args m K} hS => ?_⟩
  unfold frameS at hS
  simp only at hS
  generalize his : reachB m 40 (refsAL args) [] = is at hS
  generalize hsrc : uniN (srcsL args) (srcsM m is) = srcs at hS
  split at hS
  · rename_i hc
    have hc := andb_split hc
    rw [mlen_eq] at hS hc
    generalize hn : m.length = n at hS hc
    have hlt := allLt_spec hc.1
    have hnd := nodupL_spec hc.2
    intro B E w vs hM hA
    have hMn := hn.symm
    have hsA : ∀ i ∈ srcsL args, i ∈ srcs := fun i hi => by rw [← hsrc]; exact mem_uniN.2 (.inl hi)
    have hsB : ∀ i ∈ is, ∀ k ∈ blkSrcs (mget m i), k ∈ srcs := fun i hi k hk => by rw [← hsrc]; exact mem_uniN.2 (.inr (mem_srcsM.2 ⟨i, hi, hk⟩))
    let F0 : Nat → Prop := fun b => ∃ i ∈ is, E.bl i = some b
    have hown : ∀ {i b}, E.bl i = some b → E.T b := by
      intro i b hb
      rcases (hM.old i b hb).1 with h | h
      · exact (hM.T b).2 (.inl (hM.FT b h))
      · exact (hM.T b).2 (.inr h)
    have hM1 : SatM ⟨w, F0, (E.small is srcs n).T⟩ (E.small is srcs n) (dnM m is is) w := by
      refine ⟨fun j bk hb => ?_, fun j hj => ?_, fun i j b h1 h2 => ?_, fun j b hb => ?_, rfl, rfl, rfl, Nat.le_refl _, fun _ _ _ => rfl, fun b => ⟨.inl, fun h => h.elim id fun h => ?_⟩, fun b hb => ?_⟩
      · obtain ⟨i, hi, rfl⟩ := dnM_get hb
        by_cases hd : mget m i = .dead
        · rw [hd]; trivial
        · exact SatB.dn hnd hlt hi (hsB i (iget_mem hi)) (hM.blk i _ (mget_get hd))
      · simp only [Env.small]
        rw [dnM_length] at hj
        cases hg : iget is j with
        | none => rfl
        | some i => have := iget_lt hg; omega
      · simp only [Env.small] at h1 h2
        split at h1
        · rename_i i1 hi1
          split at h2
          · rename_i i2 hi2
            have := hM.inj i1 i2 b h1 h2
            subst this
            have e1 := iget_idx hnd hi1
            have e2 := iget_idx hnd hi2
            rw [e1] at e2; cases e2; rfl
          · cases h2
        · cases h1
      · simp only [Env.small] at hb
        split at hb
        · rename_i i hi
          exact ⟨.inl ⟨i, iget_mem hi, hb⟩, (hM.old i b hb).2⟩
        · cases hb
      · have h1 : w.heap.size ≤ b := h
        exact ⟨(hM.T b).2 (.inr (Nat.le_trans hM.size h1)), fun i hi => by have := (hM.old i b hi).2; omega⟩
      · obtain ⟨i, hi, hbi⟩ := hb
        exact ⟨hown hbi, fun k hk => .inr (by rw [hM.inj k i b hk hbi]; exact hi)⟩
    refine (h.calls hS _ _ w vs hM1 (RelL.dn hnd hlt hsA hA)).mono fun e w' he => ?_
    obtain ⟨out, m', k1, k2, F, hK, hM', hk, ho⟩ := he
    have hTF : ∀ b, F.T b → (E.small is srcs n).T b ∨ w.heap.size ≤ b := fun b hb => (hM'.T b).1 hb
    have hok : ∀ src b, F.ok src b → (E.big is n F).ok (uniN (mapN (upI is n) src) srcs) b := fun src b hb => big_ok hnd hlt hM hMn.symm.symm hTF hb
    have hheap : ∀ b, b < w.heap.size → ¬ F0 b → w'.heap[b]? = w.heap[b]? := fun b hb hF => hM'.frame b hb hF
    have hout : ∀ {i b}, i ∉ is → E.bl i = some b → ¬ F0 b := by
      rintro i b hi hb ⟨k, hk, hkb⟩
      exact hi (by rw [hM.inj i k b hb hkb]; exact hk)
    -- what is kept
    have hkeep : EKeep E w (E.big is n F) w' (mapN (upI is n) k1) (mapN (upI is n) k2) := by
      refine ⟨fun i hi b hb => ?_, fun i hi => ?_, fun src hs b hbok hex => ?_⟩
      · rcases big_of hnd hlt i with ⟨j, rfl⟩ | ⟨h1, h2⟩
        · rw [big_bl hnd hlt]
          refine hk.1 j (fun hj => hi (mem_mapN.2 ⟨j, hj, rfl⟩)) b ?_
          rcases up_cases hnd hlt j with ⟨i', h3, h4, h5⟩ | ⟨h3, h4, h5⟩
          · simp only [Env.small, h3]; rw [h4] at hb; exact hb
          · rw [hM.out _ (by rw [h4]; omega)] at hb; cases hb
        · rw [big_bl_other hnd hlt h1 h2]; exact hb
      · rcases big_of hnd hlt i with ⟨j, rfl⟩ | ⟨h1, h2⟩
        · rw [big_sl hnd hlt, hk.2.1 j (fun hj => hi (mem_mapN.2 ⟨j, hj, rfl⟩))]; rfl
        · rw [big_sl_other hnd hlt h1 h2]
      · obtain ⟨o, v, hv⟩ := hex
        have hltb : b < w.heap.size := World.block_lt_of_cell? w _ hv
        by_cases hTs : (E.small is srcs n).T b
        · -- what the call may read
          have hsm : (E.small is srcs n).ok (dnS is src) b := by
            refine ⟨hTs, fun j hj => ?_⟩
            simp only [Env.small] at hj
            split at hj
            · rename_i i hi
              exact mem_dnS.2 ⟨i, hbok.2 i hj, iget_idx hnd hi⟩
            · cases hj
          have h3 := hk.2.2 (dnS is src) (fun j hj hj2 => by
            obtain ⟨i, hi, hij⟩ := mem_dnS.1 hj
            exact hs i hi (mem_mapN.2 ⟨j, hj2, by simp [upI, idx_iget hij]⟩)) b hsm ⟨o, v, hv⟩
          refine ⟨⟨hbok.1, fun i hi => ?_⟩, h3.2⟩
          rcases big_of hnd hlt i with ⟨j, rfl⟩ | ⟨h1, h2⟩
          · rw [big_bl hnd hlt] at hi
            obtain ⟨i', hi', hij⟩ := mem_dnS.1 (h3.1.2 j hi)
            have : upI is n j = i' := by simp [upI, idx_iget hij]
            rw [this]; exact hi'
          · rw [big_bl_other hnd hlt h1 h2] at hi; exact hbok.2 i hi
        · have hnF : ¬ F0 b := by
            rintro ⟨i, hi, hbi⟩
            exact hTs ⟨hown hbi, fun k hk => .inr (by rw [hM.inj k i b hk hbi]; exact hi)⟩
          refine ⟨⟨hbok.1, fun i hi => ?_⟩, fun o' v' hv' => ?_⟩
          · rcases big_of hnd hlt i with ⟨j, rfl⟩ | ⟨h1, h2⟩
            · rw [big_bl hnd hlt] at hi
              rcases (hM'.old j b hi).1 with h4 | h4
              · exact absurd h4 hnF
              · have h5 : w.heap.size ≤ b := h4
                omega
            · rw [big_bl_other hnd hlt h1 h2] at hi; exact hbok.2 i hi
          · rw [← hv']
            exact World.cell?_of_block (w := w) (w' := w') (a := ⟨b, o', none⟩) (hheap b hltb hnF)
    refine ⟨_, _, _, _, E.big is n F, hK, ?_, hkeep, ?_⟩
    · refine ⟨fun i bk hb => ?_, fun i hi => ?_, fun i i' b h1 h2 => ?_, fun i b hi => ?_, hM'.os.trans hM.os, hM'.tape.trans hM.tape, hM'.output.trans hM.output, Nat.le_trans hM.size hM'.size, fun b hb hF => ?_, hM.T, hM.FT⟩
      · rcases joinM_get (is := is) hb with ⟨h1, h2⟩ | ⟨h1, b0, h2, rfl⟩
        · rw [Nat.zero_add] at h2
          rcases h2 with ⟨j, h3, rfl⟩ | ⟨h3, b0, h4, rfl⟩
          · have hij : upI is n j = i := by simp [upI, idx_iget h3]
            by_cases hd : mget m' j = .dead
            · rw [hd]; trivial
            · rw [← hij]
              exact SatB.up hnd hlt hok (hM'.blk j _ (mget_get hd))
          · have hi : i < n := by rw [← hn]; exact h1
            have hni : i ∉ is := fun hi' => by obtain ⟨j, hj⟩ := idx_of_mem hi'; rw [hj] at h3; cases h3
            refine (hM.blk i b0 h4).keep hkeep (fun b hbl => hheap b (hM.old i b hbl).2 (hout hni hbl)) (big_bl_other hnd hlt hi h3) (big_sl_other hnd hlt hi h3)
        · rw [hn] at h1 h2
          have hij : upI is n (is.length + (i - n)) = i := by
            have : iget is (is.length + (i - n)) = none := by
              cases hg : iget is (is.length + (i - n)) with
              | none => rfl
              | some k => have := iget_lt hg; omega
            simp only [upI, this, nlen_eq]; omega
          rw [← hij]
          exact SatB.up hnd hlt hok (hM'.blk _ _ h2)
      · rw [joinM_length, hn] at hi
        have hx : idx is i = none := by
          cases hx : idx is i with
          | none => rfl
          | some j => have := hlt i (idx_mem hx); omega
        simp only [Env.big, hx]
        rw [if_neg (by omega)]
        exact hM'.out _ (by omega)
      · rcases big_of hnd hlt i with ⟨j, rfl⟩ | ⟨a1, a2⟩ <;> rcases big_of hnd hlt i' with ⟨j', rfl⟩ | ⟨b1, b2⟩
        · rw [big_bl hnd hlt] at h1 h2; rw [hM'.inj j j' b h1 h2]
        · rw [big_bl hnd hlt] at h1; rw [big_bl_other hnd hlt b1 b2] at h2
          exfalso
          have hni : i' ∉ is := fun hi' => by obtain ⟨j, hj⟩ := idx_of_mem hi'; rw [hj] at b2; cases b2
          rcases (hM'.old j b h1).1 with h4 | h4
          · exact hout hni h2 h4
          · have h5 : w.heap.size ≤ b := h4
            have := (hM.old i' b h2).2; omega
        · rw [big_bl hnd hlt] at h2; rw [big_bl_other hnd hlt a1 a2] at h1
          exfalso
          have hni : i ∉ is := fun hi' => by obtain ⟨j, hj⟩ := idx_of_mem hi'; rw [hj] at a2; cases a2
          rcases (hM'.old j' b h2).1 with h4 | h4
          · exact hout hni h1 h4
          · have h5 : w.heap.size ≤ b := h4
            have := (hM.old i b h1).2; omega
        · rw [big_bl_other hnd hlt a1 a2] at h1; rw [big_bl_other hnd hlt b1 b2] at h2
          exact hM.inj i i' b h1 h2
      · rcases big_of hnd hlt i with ⟨j, rfl⟩ | ⟨a1, a2⟩
        · rw [big_bl hnd hlt] at hi
          have h1 := hM'.old j b hi
          refine ⟨?_, h1.2⟩
          rcases h1.1 with ⟨k, hk1, hk2⟩ | h4
          · exact (hM.old k b hk2).1
          · exact .inr (Nat.le_trans hM.size h4)
        · rw [big_bl_other hnd hlt a1 a2] at hi
          exact ⟨(hM.old i b hi).1, Nat.lt_of_lt_of_le (hM.old i b hi).2 hM'.size⟩
      · rw [← hM.frame b hb hF]
        refine hheap b (Nat.lt_of_lt_of_le hb hM.size) ?_
        rintro ⟨k, hk1, hk2⟩
        rcases (hM.old k b hk2).1 with h4 | h4
        · exact hF h4
        · omega
    · cases out with
      | ret av => obtain ⟨v, rfl, hv⟩ := ho; exact ⟨v, rfl, Rel.up hnd hlt hok hv⟩
      | panic av => obtain ⟨v, rfl, hv⟩ := ho; exact ⟨v, rfl, Rel.up hnd hlt hok hv⟩
  · exact hS.elim

/-- What is said of a call is so, where its text walked says it. -/
theorem specOK_of {P : Program} {call : ACall} (hC : CallOK P call) {f : FuncId} {S : List AV → List Blk → AK → Prop} (step : ∀ vs w, (callFunc f vs).run P w = .ok (.enter f vs) w)
    (h : ∀ args m K, S args m K → wfAL args → wfM m → Hd (call f args m K)) : SpecOK P f S := ⟨step, fun hS B E w vs hM hA => hC.calls (h _ _ _ hS hA.wf hM.wf).h B E w vs hM hA⟩

end Go.Proofs.Ytkdemkkepepbdaa.Sx
