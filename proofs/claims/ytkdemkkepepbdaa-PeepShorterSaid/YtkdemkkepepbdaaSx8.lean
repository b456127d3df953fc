/- The framework: regions that draw their order. -/
import Derived.Test.YtkdemkkepepbdaaSx7
import Derived.Orders
namespace Go.Proofs.Ytkdemkkepepbdaa.Sx
set_option linter.unusedSectionVars false
set_option linter.unusedVariables false
set_option linter.unusedSimpArgs false
open Go.RowKit

theorem andb_iff {a b : Bool} : andb a b = true ↔ a = true ∧ b = true := by cases a <;> simp [andb]
theorem orb_iff {a b : Bool} : orb a b = true ↔ a = true ∨ b = true := by cases a <;> simp [orb]
theorem nob_iff {a : Bool} : nob a = true ↔ a = false := by cases a <;> simp [nob]
theorem memb_iff {n : Nat} {l : List Nat} : memb n l = true ↔ n ∈ l := by
  induction l with
  | nil => simp [memb]
  | cons a l ih =>
    simp only [memb]
    cases h : Nat.beq n a with
    | true => have := beq_true h; subst this; simp
    | false =>
      have h1 : n ≠ a := by intro e; subst e; simp at h
      simp [ih, h1]
theorem memb_not {n : Nat} {l : List Nat} : memb n l = false ↔ n ∉ l := by
  rw [← memb_iff]; simp
theorem allN_iff {l : List Nat} {f : Nat → Bool} : allN l f = true ↔ ∀ i ∈ l, f i = true := by
  induction l with
  | nil => simp [allN]
  | cons a l ih =>
    simp only [allN]
    cases h : f a <;> simp [h, ih]
theorem anyN_iff {l : List Nat} {f : Nat → Bool} : anyN l f = true ↔ ∃ i ∈ l, f i = true := by
  induction l with
  | nil => simp [anyN]
  | cons a l ih =>
    simp only [anyN]
    cases h : f a <;> simp [h, ih]
theorem mem_rng {n i : Nat} : i ∈ rng n ↔ i < n := by
  induction n with
  | zero => simp [rng]
  | succ n ih => simp only [rng, app_eq, List.mem_append, ih, List.mem_singleton]; omega
theorem sameD_iff {a b : Option Nat} : sameD a b = true ↔ ∃ t, a = some t ∧ b = some t := by
  cases a <;> cases b <;> simp [sameD]
  rename_i x y
  exact eq_comm
theorem beqN {a b : Nat} : Nat.beq a b = true ↔ a = b := ⟨beq_true, fun h => by subst h; simp⟩
theorem blt_iff {a b : Nat} : Nat.blt a b = true ↔ a < b := by simp [Nat.blt]; omega
theorem beqN_f {a b : Nat} : Nat.beq a b = false ↔ a ≠ b := by
  rw [← Bool.not_eq_true, beqN]

theorem oget_iff {l : List Oper} {j : Nat} {o : Oper} : oget l j = some o ↔ l[j]? = some o := by
  refine ⟨oget_get, ?_⟩
  induction l generalizing j with
  | nil => simp
  | cons a l ih =>
    cases j with
    | zero => simp [oget]
    | succ j => intro h; simpa [oget] using ih (by simpa using h)

theorem lset_get_self : ∀ {l : List AV} {t : Nat}, lset l t (lget l t) = l
  | [], t => rfl
  | a :: l, 0 => rfl
  | a :: l, t + 1 => by simp [lset, lget, lset_get_self]
theorem lget_lset_ne : ∀ {l : List AV} {t s : Nat} {v : AV}, s ≠ t → lget (lset l t v) s = lget l s
  | [], t, s, v, h => by simp [lset]
  | a :: l, 0, 0, v, h => (h rfl).elim
  | a :: l, 0, s + 1, v, h => rfl
  | a :: l, t + 1, 0, v, h => rfl
  | a :: l, t + 1, s + 1, v, h => by simpa [lset, lget] using lget_lset_ne (l := l) (v := v) (by omega : s ≠ t)
theorem lget_lset_eq : ∀ {l : List AV} {t : Nat} {v : AV}, t < l.length → lget (lset l t v) t = v
  | [], t, v, h => by simp at h
  | a :: l, 0, v, h => rfl
  | a :: l, t + 1, v, h => by simpa [lset, lget] using lget_lset_eq (l := l) (v := v) (by simpa using h)
theorem lget_out : ∀ {l : List AV} {t : Nat}, l.length ≤ t → lget l t = .bad
  | [], t, h => by cases t <;> rfl
  | a :: l, 0, h => by simp at h
  | a :: l, t + 1, h => by simpa [lget] using lget_out (l := l) (by simpa using h)
theorem putT_len (l : List AV) (d : Option Tmp) (a : AV) : (putT l d a).length = l.length := by cases d <;> simp [putT, lset_len]
theorem killL_len {k1 k2 : List Nat} : ∀ l : List AV, (killL k1 k2 l).length = l.length
  | [] => rfl
  | a :: l => by simp [killL, killL_len l]
theorem killL_get {k1 k2 : List Nat} : ∀ {l : List AV} {t : Nat}, lget (killL k1 k2 l) t = kill k1 k2 (lget l t)
  | [], t => by cases t <;> simp [killL, lget, kill]
  | a :: l, 0 => by simp [killL, lget]
  | a :: l, t + 1 => by simpa [killL, lget] using killL_get (l := l)
theorem killF_get {k1 k2 : List Nat} {l : List AV} {t : Nat} : lget (killF k1 k2 l) t = kill k1 k2 (lget l t) := by
  unfold killF
  split
  · rw [kill_nil]
  · exact killL_get
theorem killF_len {k1 k2 : List Nat} (l : List AV) : (killF k1 k2 l).length = l.length := by
  unfold killF; split
  · rfl
  · exact killL_len l

/-! ### what an operation reads alone decides it -/

def agree (l : List Operand) (ρ ρ' : Opd) : Prop := ∀ x ∈ l, ρ x = ρ' x

theorem evs_congr {ρ ρ' : Opd} : ∀ {l : List Operand}, agree l ρ ρ' → evs ρ l = evs ρ' l
  | [], _ => rfl
  | a :: l, h => by simp [evs, h a (by simp), evs_congr (l := l) (fun x hx => h x (by simp [hx]))]
theorem evp_congr {ρ ρ' : Opd} : ∀ {l : List (Nat × Operand)}, agree (l.map (·.2)) ρ ρ' → evp ρ l = evp ρ' l
  | [], _ => rfl
  | (i, a) :: l, h => by simp [evp, h a (by simp), evp_congr (l := l) (fun x hx => h x (by simp [List.mem_cons]; right; simpa using hx))]

theorem qval_congr {tab : Tab} {o : Oper} {ρ ρ' : Opd} {m : List Blk} (h : agree o.op.operands.toList ρ ρ') : qval tab o ρ m = qval tab o ρ' m := by
  unfold qval
  cases hop : o.op <;> rw [hop] at h <;> simp only [Op.operands] at h ⊢
  case build t ps => rw [evp_congr (l := ps.toList) (by simpa [agree] using h)]
  case makeFunc f a b =>
    rw [evs_congr (l := a.toList) (fun x hx => h x (by simp at hx ⊢; exact .inl hx)), evs_congr (l := b.toList) (fun x hx => h x (by simp at hx ⊢; exact .inr hx))]
  case call c =>
    cases hcal : c.callee <;> simp only []
    rw [evs_congr (l := c.args.toList) (fun x hx => h x (by simp [Call.operands, hcal] at hx ⊢; exact hx))]
  case slice t x lo hi mx =>
    have hb : ∀ (y : Option Operand), (∀ z, y = some z → ρ z = ρ' z) → ∀ d, bndV ρ d y = bndV ρ' d y := by
      intro y hy d
      cases y with
      | none => rfl
      | some z => simp only [bndV, hy z rfl]
    have e1 := hb lo fun z hz => h z (by simp [hz])
    have e2 := hb hi fun z hz => h z (by simp [hz])
    have hz : ∀ (y : Option Operand), (∀ z, y = some z → ρ z = ρ' z) → isZ ρ y = isZ ρ' y := by
      intro y hy
      cases y with
      | none => rfl
      | some z => cases z <;> simp only [isZ] <;> rw [hy _ rfl]
    have e3 := hz hi fun z hz => h z (by simp [hz])
    have e4 := hz mx fun z hz => h z (by simp [hz])
    simp only [sliceV, sliceU, h x (by simp), e1, e2, e3, e4]
  all_goals first
    | rfl
    | (rw [h _ (by simp), h _ (by simp), h _ (by simp)]; done)
    | (rw [h _ (by simp)]; done)
    | (simp only [agree, List.mem_cons, List.not_mem_nil, or_false, forall_eq_or_imp, forall_eq] at h; simp only [h]; done)
    | (simp only [agree, List.mem_cons, List.not_mem_nil, or_false, forall_eq_or_imp, forall_eq] at h; simp only [h.1, h.2]; done)
    | (simp only [agree, List.mem_cons, List.not_mem_nil, or_false, forall_eq_or_imp, forall_eq] at h; simp only [h.1, h.2.1, h.2.2]; done)

theorem qop_congr {tab : Tab} {o : Oper} {ρ ρ' : Opd} {m : List Blk} {K : AV → Prop} (h : agree o.op.operands.toList ρ ρ') : qop tab o ρ m K = qop tab o ρ' m K := by
  unfold qop
  rw [qval_congr h]
  split
  · rfl
  · cases hop : o.op <;> rw [hop] at h <;> simp only [Op.operands] at h ⊢
    all_goals
      simp only [agree, List.mem_cons, List.not_mem_nil, or_false, forall_eq_or_imp, forall_eq] at h
      first
        | (unfold splitQ; rw [hop]; simp only; rw [h.1, h.2]; done)
        | (rw [h.1, h.2.1, h.2.2]; done)
        | (rw [h.1, h.2]; done)

theorem lop_congr {tab : Tab} {call : ACall} {o : Oper} {ρ ρ' : Opd} {m : List Blk} {K : AK} (h : agree o.op.operands.toList ρ ρ') : lop tab call o ρ m K = lop tab call o ρ' m K := by
  have hq := qval_congr (tab := tab) (m := m) h
  unfold lop
  cases hop : o.op <;> rw [hop] at h <;> simp only [Op.operands] at h ⊢
  case slice t x lo hi mx =>
    have hb : ∀ (y : Option Operand), (∀ z, y = some z → ρ z = ρ' z) → ∀ d, bndV ρ d y = bndV ρ' d y := by
      intro y hy d
      cases y with
      | none => rfl
      | some z => simp only [bndV, hy z rfl]
    have e2 := hb hi fun z hz => h z (by simp [hz])
    simp only [h x (by simp), e2, hq]
  case buildSlice t len ps => rw [evp_congr (l := ps.toList) (by simpa [agree] using h)]
  case call c =>
    cases hcal : c.callee <;> simp only []
    · rw [evs_congr (l := c.args.toList) (fun x hx => h x (by simp [Call.operands, hcal] at hx ⊢; exact .inr hx)), h _ (by simp [Call.operands, hcal])]
    · rw [evs_congr (l := c.args.toList) (fun x hx => h x (by simp [Call.operands, hcal] at hx ⊢; exact hx))]
  all_goals first
    | rfl
    | (rw [h _ (by simp)]; done)
    | (simp only [agree, List.mem_cons, List.not_mem_nil, or_false, forall_eq_or_imp, forall_eq] at h; simp only [h.1, h.2]; done)

theorem callV_congr {fs : FS} {o : Oper} {ρ ρ' : Opd} {m : List Blk} (h : agree o.op.operands.toList ρ ρ') : callV fs o ρ m = callV fs o ρ' m := by
  unfold callV
  cases hop : o.op <;> rw [hop] at h <;> simp only [Op.operands] at h ⊢
  rename_i c
  cases hcal : c.callee <;> simp only []
  rw [evs_congr (l := c.args.toList) (fun x hx => h x (by simp [Call.operands, hcal] at hx ⊢; exact .inr hx)), h _ (by simp [Call.operands, hcal])]
theorem xop_congr {tab : Tab} {call : ACall} {o : Oper} {ρ ρ' : Opd} {m : List Blk} {K : AK} (h : agree o.op.operands.toList ρ ρ') : xop tab call o ρ m K = xop tab call o ρ' m K := by
  unfold xop; rw [qop_congr h, lop_congr h]
theorem xopF_congr {tab : Tab} {fs : FS} {call : ACall} {o : Oper} {ρ ρ' : Opd} {m : List Blk} {K : AK} (h : agree o.op.operands.toList ρ ρ') : xopF tab fs call o ρ m K = xopF tab fs call o ρ' m K := by
  unfold xopF; rw [xop_congr h, callV_congr h]


/-! ### an operation that is quiet comes to some value -/

theorem qop_feas {tab : Tab} {o : Oper} {ρ : Opd} {m : List Blk} {K : AV → Prop} (h : qop tab o ρ m K) : ∃ v, K v := by
  unfold qop at h
  split at h
  · exact ⟨_, (needL_iff.1 h).2⟩
  · split at h
    · split at h
      · rename_i cb _
        cases cb <;> exact ⟨_, h⟩
      · exact h.elim
    · split at h
      · split at h
        · exact ⟨_, h.2⟩
        · exact ⟨_, h.2⟩
        · exact h.elim
      · exact h.elim
    · unfold splitQ at h
      split at h
      · split at h
        · split at h
          · obtain ⟨b, _, _, _, h⟩ := splitI_spec h
            exact ⟨_, h⟩
          · exact h.elim
        · exact h.elim
      · exact h.elim
    · exact h.elim

theorem set_lit {σ : St} {t : Nat} {c : Bool} (h : lget σ.tm t = .bool c) : ({ σ with tm := lset σ.tm t (.bool c) } : St) = σ := by rw [← h, lset_get_self]

theorem guarded_cases {ops : List Oper} {o : Oper} {σ : St} {yes no : St → Prop} (h : guarded ops o σ yes no) : yes σ ∨ no σ := by
  unfold guarded at h
  split at h
  · exact .inl h
  · split at h
    · split at h
      · split at h
        · rename_i b hb
          split at h <;> cases b <;> simp only [ifB] at h <;> rw [set_lit hb] at h <;> first | exact .inl h | exact .inr h
        · exact .inr h
        · exact h.elim
      · exact h.elim
    · exact h.elim

/-- What running the quiet ones early comes to. -/
theorem runQ_ex {tab : Tab} {ops : List Oper} : ∀ {l : List Nat} {σ : St} {K : St → Prop}, runQ tab ops l σ K →
    ∃ σ', K σ' ∧ σ'.mem = σ.mem ∧ σ'.k1 = σ.k1 ∧ σ'.k2 = σ.k2 ∧ σ'.tm.length = σ.tm.length ∧ ∀ t, (∀ j ∈ l, dstOf ops j ≠ some t) → lget σ'.tm t = lget σ.tm t
  | [], σ, K, h => ⟨σ, h, rfl, rfl, rfl, rfl, fun _ _ => rfl⟩
  | i :: l, σ, K, h => by
    simp only [runQ] at h
    split at h
    · rename_i o ho
      have step : ∀ v, runQ tab ops l { σ with tm := putT σ.tm o.dst v } K → ∃ σ', K σ' ∧ σ'.mem = σ.mem ∧ σ'.k1 = σ.k1 ∧ σ'.k2 = σ.k2 ∧ σ'.tm.length = σ.tm.length ∧
          ∀ t, (∀ j ∈ i :: l, dstOf ops j ≠ some t) → lget σ'.tm t = lget σ.tm t := by
        intro v hv
        obtain ⟨σ', h1, h2, h3, h4, h5, h6⟩ := runQ_ex hv
        refine ⟨σ', h1, h2, h3, h4, h5.trans (putT_len _ _ _), fun t ht => ?_⟩
        rw [h6 t (fun j hj => ht j (by simp [hj]))]
        have hd := ht i (by simp)
        simp only [dstOf, ho] at hd
        cases hod : o.dst with
        | none => rfl
        | some d =>
          rw [hod] at hd
          exact lget_lset_ne (fun e => hd (by rw [e]))
      rcases guarded_cases h with h | h
      · obtain ⟨v, h⟩ := qop_feas h
        exact step v h
      · exact step .und h
    · exact h.elim

mutual
theorem sameK_eq : ∀ {x y : AV} {K : Prop}, sameK x y K → x = y ∧ K := by
  intro x y K h
  match x, y with
  | .agg l, .agg l' => simp only [sameK] at h; have := sameL_eq h; exact ⟨by rw [this.1], this.2⟩
  | .tup l, .tup l' => simp only [sameK] at h; have := sameL_eq h; exact ⟨by rw [this.1], this.2⟩
  | x, y =>
    unfold sameK at h
    split at h
    · split at h
      · rename_i h1 h2; rw [beq_true h1, beq_true h2]; exact ⟨rfl, h⟩
      · exact h.elim
    · split at h
      · rename_i hk; rw [hk, h.1]; exact ⟨rfl, h.2⟩
      · exact h.elim
    · rw [h.1]; exact ⟨rfl, h.2⟩
    · rw [h.1]; exact ⟨rfl, h.2⟩
    · have := sameL_eq h; exact ⟨by rw [this.1], this.2⟩
    · have := sameL_eq h; exact ⟨by rw [this.1], this.2⟩
    · exact ⟨rfl, h⟩
    · split at h
      · rename_i h1; rw [beq_true h1]; exact ⟨rfl, h⟩
      · exact h.elim
    · split at h
      · rename_i h1; rw [beq_true h1, h.1]; exact ⟨rfl, h.2⟩
      · exact h.elim
    · exact ⟨rfl, h⟩
    · exact ⟨rfl, h⟩
    · exact h
theorem sameL_eq : ∀ {l l' : List AV} {K : Prop}, sameL l l' K → l = l' ∧ K
  | [], [], _, h => ⟨rfl, h⟩
  | a :: l, b :: l', K, h => by
    simp only [sameL] at h
    have h1 := sameK_eq h
    have h2 := sameL_eq h1.2
    rw [h1.1, h2.1]
    exact ⟨rfl, h2.2⟩
  | [], _ :: _, _, h => h.elim
  | _ :: _, [], _, h => h.elim
end
theorem badK_eq {x : AV} {K : Prop} (h : badK x K) : x = .und ∧ K := by
  unfold badK at h
  split at h
  · exact ⟨rfl, h⟩
  · exact h.elim

theorem valid_k {tab : Tab} {ops : List Oper} {σ : St} {i : Nat} {K : Prop} (h : valid tab ops σ i K) : K := by
  unfold valid at h
  split at h
  · rcases guarded_cases h with h | h
    · obtain ⟨v, h⟩ := qop_feas h
      exact (sameK_eq h).2
    · exact (badK_eq h).2
  · exact h.elim
theorem checks_valid {tab : Tab} {ops : List Oper} {σ : St} : ∀ {l : List Nat} {K : Prop}, checks tab ops l σ K → ∀ i ∈ l, ∃ K, valid tab ops σ i K
  | [], _, _, i, hi => by cases hi
  | a :: l, K, h, i, hi => by
    cases hi with
    | head => exact ⟨_, h⟩
    | tail _ hi => exact checks_valid (valid_k (i := a) h) i hi
theorem checks_k {tab : Tab} {ops : List Oper} {σ : St} : ∀ {l : List Nat} {K : Prop}, checks tab ops l σ K → K
  | [], _, h => h
  | a :: l, K, h => checks_k (l := l) (valid_k (i := a) h)

/-! ### the invariant -/

/-- An operation, its guard and its operands, where what it reads is known. -/
theorem guarded_at {ops : Array Oper} {o : Oper} {σ : St} {yes no : St → Prop} {E : Env} {w : World} {a : Act}
    (hg : ∀ j want t, o.guard = some (j, want) → dstOf ops.toList j = some t → Rel E w (lget σ.tm t) (a.tmps.toList.getD t undef))
    (h : guarded ops.toList o σ yes no) : (Region.wanted o (yielded ops a.tmps) = true ∧ yes σ) ∨ (Region.wanted o (yielded ops a.tmps) = false ∧ no σ) := by
  unfold guarded at h
  split at h
  · rename_i hgd
    exact .inl ⟨by simp [Region.wanted, hgd], h⟩
  · rename_i j want hgd
    split at h
    · rename_i oj hj
      split at h
      · rename_i t ht
        split at h
        · rename_i b hb
          have hy : yielded ops a.tmps j = some b := by
            have h1 : ops[j]? = some oj := by simpa using oget_get hj
            have h2 := hg j want t hgd (by simp [dstOf, hj, ht])
            rw [hb] at h2
            simp only [Rel] at h2
            have h3 : a.tmps[t]? = some (.bool b) := by
              by_cases hlt : t < a.tmps.size
              · have : a.tmps.toList.getD t undef = a.tmps[t] := by simp [List.getD, List.getElem?_eq_getElem, hlt]
                rw [this] at h2
                rw [Array.getElem?_eq_getElem hlt, h2]
              · have : a.tmps.toList.getD t undef = undef := by simp [List.getD, hlt]
                rw [this] at h2
                simp [undef] at h2
            simp [yielded, h1, ht, h3]
          split at h <;> cases b <;> simp only [ifB] at h <;> rw [set_lit hb] at h
          · exact .inr ⟨by simp [Region.wanted, hgd, hy], h⟩
          · exact .inl ⟨by simp [Region.wanted, hgd, hy], h⟩
          · exact .inl ⟨by simp [Region.wanted, hgd, hy], h⟩
          · exact .inr ⟨by simp [Region.wanted, hgd, hy], h⟩
        · rename_i hb
          have hy : yielded ops a.tmps j = none := by
            have h1 : ops[j]? = some oj := by simpa using oget_get hj
            have h2 := hg j want t hgd (by simp [dstOf, hj, ht])
            rw [hb] at h2
            simp only [Rel] at h2
            exact yielded_und h1 ht h2
          exact .inr ⟨by simp [Region.wanted, hgd, hy], h⟩
        · exact h.elim
      · exact h.elim
    · exact h.elim

theorem mem_tmpOf {t : Nat} : ∀ {l : List Operand}, t ∈ tmpOf l ↔ Operand.tmp t ∈ l
  | [] => by simp [tmpOf]
  | .tmp u :: l => by simp [tmpOf, mem_tmpOf (l := l)]
  | .const v :: l => by simp [tmpOf, mem_tmpOf (l := l)]
  | .global g :: l => by simp [tmpOf, mem_tmpOf (l := l)]
  | .func f :: l => by simp [tmpOf, mem_tmpOf (l := l)]

theorem mem_edgesOf {j : Nat} : ∀ {l : List Edge}, j ∈ edgesOf l ↔ ∃ e ∈ l, Region.binds .any e = true ∧ e.on = j
  | [] => by simp [edgesOf]
  | e :: l => by
    have hb : bindsG e.ground = Region.binds .any e := by
      cases hg : e.ground <;> simp [bindsG, Region.binds, hg]
    have ih := mem_edgesOf (j := j) (l := l)
    simp only [edgesOf]
    rw [hb]
    constructor
    · intro h
      cases hx : Region.binds .any e with
      | true =>
        rw [hx] at h
        rcases List.mem_cons.1 h with rfl | h
        · exact ⟨e, by simp, hx, rfl⟩
        · obtain ⟨f, h1, h2⟩ := ih.1 h; exact ⟨f, by simp [h1], h2⟩
      | false =>
        rw [hx] at h
        obtain ⟨f, h1, h2⟩ := ih.1 h; exact ⟨f, by simp [h1], h2⟩
    · rintro ⟨f, hf, h1, h2⟩
      rcases List.mem_cons.1 hf with rfl | hf
      · rw [h1, h2]; simp
      · have := ih.2 ⟨f, hf, h1, h2⟩
        cases Region.binds .any e <;> simp [this]

section inv
variable (tab : Tab) (fs : FS) (call : ACall) (C : Ctx) (ops : Array Oper) (R : Option Nat)

/-- 'Is it done?' -/
def done (listed : Array Bool) (i : Nat) : Prop := listed.getD i false = true

structure Inv (Q : AExit → St → Prop) (listed : Array Bool) (P rc : List Nat) (l : PT) (σ : St) (E : Env) (a : Act) (w : World) : Prop where
  size : listed.size = ops.size
  plan : planGo ops.toList ops.size P rc l = true
  vals : ∀ i ∈ rc, ∃ K, valid tab ops.toList σ i K
  rest : stagesK tab fs call ops.toList R l σ (Q .normal)
  sub : ∀ i, done listed i → i ∈ P
  bars : ∀ i ∈ P, isQ ops.toList i = false → done listed i
  closed : ∀ i, done listed i → ∀ j ∈ predsOf ops.toList i, done listed j
  lt : ∀ i ∈ P, i < ops.size
  mem : SatM C.B E σ.mem w
  len : σ.tm.length = a.tmps.size
  slots : ∀ t, (∀ j ∈ P, ¬ done listed j → dstOf ops.toList j ≠ some t) → Rel E w (lget σ.tm t) (a.tmps.toList.getD t undef)
  dfr : a.defers = []
  keep : EKeep C.E0 C.w0 E w σ.k1 σ.k2
end inv

theorem done_set {listed : Array Bool} {i j : Nat} (hi : i < listed.size) : done (listed.setIfInBounds i true) j ↔ j = i ∨ done listed j := by
  unfold done
  by_cases h : j = i
  · subst h; simp [Array.getD_eq_getD_getElem?, hi]
  · have h' : i ≠ j := fun e => h e.symm
    simp [Array.getD_eq_getD_getElem?, h, h', Array.getElem?_setIfInBounds]


/-- How many are still to come. -/
def cnt (listed : Array Bool) : Nat → Nat
  | 0 => 0
  | n + 1 => cnt listed n + if listed.getD n false then 0 else 1

theorem cnt_set_out {listed : Array Bool} {i : Nat} (hs : i < listed.size) : ∀ n, n ≤ i → cnt (listed.setIfInBounds i true) n = cnt listed n
  | 0, _ => rfl
  | n + 1, h => by
    have hne : i ≠ n := by omega
    simp only [cnt]
    rw [cnt_set_out hs n (by omega)]
    congr 1
    simp [Array.getD_eq_getD_getElem?, Array.getElem?_setIfInBounds, hne]
theorem cnt_set {listed : Array Bool} {i : Nat} (hs : i < listed.size) (hd : ¬ done listed i) : ∀ n, i < n → cnt (listed.setIfInBounds i true) n + 1 = cnt listed n
  | 0, h => by omega
  | n + 1, h => by
    simp only [cnt]
    by_cases he : i = n
    · subst he
      rw [cnt_set_out hs i (Nat.le_refl _)]
      have h1 : (listed.setIfInBounds i true).getD i false = true := (done_set hs).2 (.inl rfl)
      have h2 : listed.getD i false = false := by simpa [done] using hd
      rw [h1, h2]; simp
    · have ih := cnt_set hs hd n (by omega)
      have h1 : (listed.setIfInBounds i true).getD n false = listed.getD n false := by
        simp [Array.getD_eq_getD_getElem?, Array.getElem?_setIfInBounds, he]
      rw [h1]; omega
theorem cnt_zero {listed : Array Bool} : ∀ {n}, cnt listed n = 0 → ∀ i, i < n → done listed i
  | 0, _, i, h => by omega
  | n + 1, h, i, hi => by
    simp only [cnt] at h
    by_cases he : i = n
    · subst he
      unfold done
      cases hx : listed.getD i false with
      | true => rfl
      | false => rw [hx] at h; simp at h
    · exact cnt_zero (n := n) (by omega) i (by omega)
theorem cnt_start : ∀ (n m : Nat), n ≤ m → cnt (Array.replicate m false) n = n
  | 0, m, _ => rfl
  | n + 1, m, h => by
    simp only [cnt, cnt_start n m (by omega)]
    simp only [Array.getD_eq_getD_getElem?, Array.getElem?_replicate]
    split <;> simp

theorem relL_of_get {E : Env} {w : World} : ∀ {l : List AV} {vs : List Value}, l.length = vs.length → (∀ t, Rel E w (lget l t) (vs.getD t undef)) → RelL E w l vs
  | [], vs, h, _ => by simp only [RelL]; exact List.eq_nil_of_length_eq_zero h.symm
  | a :: l, [], h, _ => by simp at h
  | a :: l, v :: vs, h, hr => ⟨v, vs, rfl, by simpa [lget] using hr 0, relL_of_get (by simpa using h) fun t => by simpa [lget] using hr (t + 1)⟩

theorem mem_insN {a x : Nat} : ∀ {l : List Nat}, x ∈ l ∨ x = a → x ∈ insN a l
  | [], h => by simp only [insN]; simpa using h
  | b :: l, h => by
    simp only [insN]
    cases h1 : Nat.beq a b with
    | true =>
      have := beq_true h1
      subst this
      simp only
      rcases h with h | h
      · exact h
      · simp [h]
    | false =>
      simp only
      cases h2 : Nat.blt a b with
      | true =>
        simp only
        rcases h with h | h
        · exact List.mem_cons_of_mem _ h
        · simp [h]
      | false =>
        simp only
        rcases h with h | h
        · rcases List.mem_cons.1 h with rfl | h
          · simp
          · exact List.mem_cons_of_mem _ (mem_insN (.inl h))
        · exact List.mem_cons_of_mem _ (mem_insN (.inr h))
theorem mem_ordN {x : Nat} : ∀ {l : List Nat}, x ∈ l → x ∈ ordN l
  | a :: l, h => by
    simp only [ordN]
    rcases List.mem_cons.1 h with rfl | h
    · exact mem_insN (.inr rfl)
    · exact mem_insN (.inl (mem_ordN h))
/-! ### new blocks numbered by the operation that makes them -/
theorem takeB_eq : ∀ (n : Nat) (l : List Blk), takeB n l = l.take n
  | 0, l => by simp [takeB]
  | n + 1, [] => by simp [takeB]
  | n + 1, a :: l => by simp [takeB, takeB_eq n l]
theorem mget_some {m : List Blk} : ∀ {i : Nat}, i < m.length → m[i]? = some (mget m i) := by
  induction m with
  | nil => intro i h; simp at h
  | cons a l ih =>
    intro i h
    cases i with
    | zero => rfl
    | succ i => simpa [mget] using ih (i := i) (by simpa using h)
theorem moveK_sound {B : Base} {E E' : Env} {w w' : World} {e s : Nat} {K : AK} {av : AV} {m' : List Blk} {k1 k2 : List Nat} (h : moveK e s K (.ret av) m' k1 k2) (hM : SatM B E' m' w') (hE : EKeep E w E' w' k1 k2) :
    ∃ av2 m2 j1 j2 E2, K (.ret av2) m2 j1 j2 ∧ SatM B E2 m2 w' ∧ EKeep E w E2 w' j1 j2 ∧ ∀ v, Rel E' w' av v → Rel E2 w' av2 v := by
  unfold moveK at h
  simp only at h
  cases hr : renV e s av with
  | none => rw [hr] at h; exact h.elim
  | some av2 =>
    rw [hr] at h
    cases hc0 : andb (Nat.blt s e) (Nat.beq (mlen m') (e + 1)) with
    | false => rw [hc0] at h; exact h.elim
    | true =>
    rw [hc0] at h
    simp only at h
    have hc := andb_iff.1 hc0
    have hse := blt_iff.1 hc.1
    have hlen : m'.length = e + 1 := by rw [← mlen_eq]; exact beq_true hc.2
    let E2 : Env := ⟨fun i => if i = s then E'.bl e else if i = e then none else E'.bl i, fun i => if i = s then E'.sl e else E'.sl i, E'.T⟩
    have bls : E2.bl s = E'.bl e := if_pos rfl
    have sls : E2.sl s = E'.sl e := if_pos rfl
    have ble : E2.bl e = none := by show (if e = s then _ else if e = e then none else _) = none; rw [if_neg (by omega), if_pos rfl]
    have blo : ∀ {i}, i ≠ s → i ≠ e → E2.bl i = E'.bl i := fun h1 h2 => by show (if _ = s then _ else if _ = e then none else _) = _; rw [if_neg h1, if_neg h2]
    have slo : ∀ {i}, i ≠ s → E2.sl i = E'.sl i := fun h1 => if_neg h1
    have hk : EKeep E' w' E2 w' [s, e] [e] := by
      refine ⟨fun i hi b hb => ?_, fun i hi => ?_, fun src hs b hok _ => ⟨⟨hok.1, fun i hi => ?_⟩, fun _ _ h => h⟩⟩
      · simp only [List.mem_cons, List.not_mem_nil, or_false, not_or] at hi
        rw [blo hi.1 hi.2]; exact hb
      · simp only [List.mem_cons, List.not_mem_nil, or_false, not_or] at hi
        exact slo hi.1
      · by_cases h1 : i = s
        · subst h1
          rw [bls] at hi
          exact absurd (by simp) (hs e (hok.2 e hi))
        · by_cases h2 : i = e
          · subst h2; rw [ble] at hi; cases hi
          · rw [blo h1 h2] at hi; exact hok.2 i hi
    refine ⟨av2, _, _, _, E2, h, ⟨fun j bk hb => ?_, fun i hi => ?_, fun i j b h1 h2 => ?_, fun i b hi => ?_, hM.os, hM.tape, hM.output, hM.size, hM.frame, hM.T, hM.FT⟩, hE.trans hk, fun v hv => ?_⟩
    · rcases mset_get hb with ⟨rfl, rfl⟩ | ⟨hne, hb⟩
      · have hbe := hM.blk e _ (mget_some (by omega))
        cases hme : mget m' e with
        | dead => trivial
        | var cells =>
          rw [hme] at hbe
          obtain ⟨b, vs, T, g1, g2, g3⟩ := hbe
          exact ⟨b, vs, T, by rw [bls]; exact g1, g2, g3.keep hk⟩
        | row et t xs src =>
          rw [hme] at hbe
          obtain ⟨g1, cells, g2, g3, g4⟩ := hbe
          simp only [killB]
          cases hh : hits src [e] with
          | true => trivial
          | false => exact ⟨g1, cells, by rw [sls]; exact g2, by rw [bls, sls]; exact g3, g4.keep (hk.2.2 src (hits_false hh))⟩
      · obtain ⟨bk0, hb1, rfl⟩ := killM_get hb
        rw [takeB_eq, List.getElem?_take] at hb1
        split at hb1
        · rename_i hlt
          exact (hM.blk j bk0 hb1).keep hk (fun _ _ => rfl) (blo hne (by omega)) (slo hne)
        · cases hb1
    · rw [mset_length, killM_length, takeB_eq, List.length_take, hlen] at hi
      by_cases h2 : i = e
      · subst h2; exact ble
      · rw [blo (by omega) h2]; exact hM.out i (by omega)
    · have key : ∀ i, E2.bl i = some b → E'.bl (if i = s then e else i) = some b ∧ (i ≠ s → i ≠ e) := by
        intro i hi
        by_cases g1 : i = s
        · subst g1; rw [bls] at hi; rw [if_pos rfl]; exact ⟨hi, fun h => absurd rfl h⟩
        · by_cases g2 : i = e
          · subst g2; rw [ble] at hi; cases hi
          · rw [blo g1 g2] at hi; rw [if_neg g1]; exact ⟨hi, fun _ => g2⟩
      obtain ⟨a1, a2⟩ := key i h1
      obtain ⟨b1, b2⟩ := key j h2
      have := hM.inj _ _ b a1 b1
      by_cases g1 : i = s <;> by_cases g2 : j = s
      · omega
      · rw [if_pos g1, if_neg g2] at this; exact absurd this.symm (b2 g2)
      · rw [if_neg g1, if_pos g2] at this; exact absurd this (a2 g1)
      · rwa [if_neg g1, if_neg g2] at this
    · by_cases g1 : i = s
      · subst g1; rw [bls] at hi; exact hM.old e b hi
      · by_cases g2 : i = e
        · subst g2; rw [ble] at hi; cases hi
        · rw [blo g1 g2] at hi; exact hM.old i b hi
    · cases av <;> simp only [renV, reduceCtorEq] at hr
      · rename_i i off
        split at hr
        · rename_i hi; have hi := beq_true hi; subst hi; cases hr
          obtain ⟨b, g1, rfl⟩ := hv
          exact ⟨b, by rw [bls]; exact g1, rfl⟩
        · cases hr
      · rename_i i a b c
        split at hr
        · rename_i hi; have hi := beq_true hi; subst hi; cases hr
          obtain ⟨b, g1, rfl⟩ := hv
          exact ⟨b, by rw [bls]; exact g1, rfl⟩
        · cases hr
      · rename_i i
        split at hr
        · rename_i hi; have hi := beq_true hi; subst hi; cases hr
          obtain ⟨g1, g2⟩ := hv
          exact ⟨by rw [sls]; exact g1, g2⟩
        · cases hr
theorem mvK_sound {B : Base} {E E' : Env} {w w' : World} {ops : List Oper} {R : Option Nat} {j : Nat} {o : Oper} {m : List Blk} {K : AK} {out : AOut} {m' : List Blk} {k1 k2 : List Nat} (h : mvK ops R j o m K out m' k1 k2)
    (hM : SatM B E' m' w') (hE : EKeep E w E' w' k1 k2) :
    ∃ out2 m2 j1 j2 E2, K out2 m2 j1 j2 ∧ SatM B E2 m2 w' ∧ EKeep E w E2 w' j1 j2 ∧ (∀ av v, out = .ret av → Rel E' w' av v → ∃ av2, out2 = .ret av2 ∧ Rel E2 w' av2 v) ∧ ∀ av, out = .panic av → out2 = out := by
  unfold mvK at h
  have same : K out m' k1 k2 → ∃ out2 m2 j1 j2 E2, K out2 m2 j1 j2 ∧ SatM B E2 m2 w' ∧ EKeep E w E2 w' j1 j2 ∧ (∀ av v, out = .ret av → Rel E' w' av v → ∃ av2, out2 = .ret av2 ∧ Rel E2 w' av2 v) ∧ ∀ av, out = .panic av → out2 = out :=
    fun h => ⟨out, m', k1, k2, E', h, hM, hE, fun av v h1 h2 => ⟨av, h1, h2⟩, fun _ _ => rfl⟩
  cases R with
  | none => exact same h
  | some n0 =>
    simp only at h
    cases ha : isAlloc o with
    | false => rw [ha] at h; exact same h
    | true =>
      rw [ha] at h
      simp only at h
      cases out with
      | panic av => exact h.elim
      | ret av =>
        obtain ⟨av2, m2, j1, j2, E2, g1, g2, g3, g4⟩ := moveK_sound h hM hE
        exact ⟨_, m2, j1, j2, E2, g1, g2, g3, fun av' v h1 h2 => by cases h1; exact ⟨av2, rfl, g4 v h2⟩, fun _ h1 => by cases h1⟩
theorem deads_get : ∀ {k j : Nat} {b : Blk}, (deads k)[j]? = some b → b = .dead
  | 0, j, b, h => by simp [deads] at h
  | k + 1, 0, b, h => by simp [deads] at h; exact h.symm
  | k + 1, j + 1, b, h => deads_get (k := k) (by simpa [deads] using h)
theorem SatM.deads {B : Base} {E : Env} {m : List Blk} {w : World} (h : SatM B E m w) (k : Nat) : SatM B E (Sx.app m (Sx.deads k)) w := by
  rw [app_eq]
  refine ⟨fun i bk hb => ?_, fun i hi => h.out i (by simp at hi; omega), h.inj, h.old, h.os, h.tape, h.output, h.size, h.frame, h.T, h.FT⟩
  rw [List.getElem?_append] at hb
  split at hb
  · exact h.blk i bk hb
  · rw [deads_get hb]; trivial

section main
variable {P : Program} {tab : Tab} {fs : FS} {call : ACall} (hT : TabOK P tab) (hFS : FSOK P fs) (hC : CallOK P call) {C : Ctx} {ops : Array Oper} {R : Option Nat} {Q : AExit → St → Prop}

theorem getD_put {a : Act} {d : Option Tmp} {v : Value} {t : Nat} : (a.put d v).tmps.toList.getD t undef = if d = some t ∧ t < a.tmps.size then v else a.tmps.toList.getD t undef := by
  cases d with
  | none => simp [Act.put]
  | some d =>
    simp only [Act.put, Array.toList_setIfInBounds, List.getD, List.getElem?_set, Option.some.injEq, Array.length_toList]
    by_cases h : d = t
    · subst h
      by_cases h2 : d < a.tmps.size <;> simp [h2]
    · simp [h]

theorem put_size (a : Act) (d : Option Tmp) (v : Value) : (a.put d v).tmps.size = a.tmps.size := by cases d <;> simp [Act.put]

/-- A quiet operation that waits, done. -/
theorem Inv.wait {listed : Array Bool} {Pr rc : List Nat} {l : PT} {σ : St} {E : Env} {a : Act} {w : World} (I : Inv tab fs call C ops R Q listed Pr rc l σ E a w)
    {i : Nat} {o : Oper} (ho : oget ops.toList i = some o) (hi : i ∈ Pr) (hp : ∀ j ∈ predsOf ops.toList i, done listed j) {v : Value} (hv : Rel E w (dstV σ.tm o.dst) v) :
    Inv tab fs call C ops R Q (listed.setIfInBounds i true) Pr rc l σ E (a.put o.dst v) w := by
  have hs : i < listed.size := by rw [I.size]; exact I.lt i hi
  refine ⟨by simpa using I.size, I.plan, I.vals, I.rest, fun j hj => ?_, fun j hj hq => (done_set hs).2 (.inr (I.bars j hj hq)), fun j hj k hk => (done_set hs).2 (.inr ?_), I.lt, I.mem,
    by rw [put_size]; exact I.len, fun t ht => ?_, by rw [put_defers]; exact I.dfr, I.keep⟩
  · rcases (done_set hs).1 hj with rfl | h
    · exact hi
    · exact I.sub j h
  · rcases (done_set hs).1 hj with rfl | h
    · exact hp k hk
    · exact I.closed j h k hk
  · rw [getD_put]
    by_cases hd : o.dst = some t ∧ t < a.tmps.size
    · rw [if_pos hd]
      rw [hd.1] at hv
      exact hv
    · rw [if_neg hd]
      by_cases hd' : o.dst = some t
      · have hlt : ¬ t < a.tmps.size := fun h => hd ⟨hd', h⟩
        rw [lget_out (by rw [I.len]; omega)]
        trivial
      · refine I.slots t fun j hj hn => ?_
        by_cases hji : j = i
        · subst hji; simp only [dstOf, ho]; exact hd'
        · exact ht j hj (fun h => (done_set hs).1 h |>.elim hji hn)

/-- One of those that may come next. -/
def Alt (s : Stage) (sub : PT) : PT → Prop
  | .nil => False
  | .cons s' sub' rest => (s' = s ∧ sub' = sub) ∨ Alt s sub rest
theorem alt_of_head {i : Nat} : ∀ {t : PT}, i ∈ heads t → ∃ s sub, Alt s sub t ∧ s.bar = i
  | .nil, h => by simp [heads] at h
  | .cons s sub rest, h => by
    simp only [heads, List.mem_cons] at h
    rcases h with rfl | h
    · exact ⟨s, sub, .inl ⟨rfl, rfl⟩, rfl⟩
    · obtain ⟨s', sub', h1, h2⟩ := alt_of_head h
      exact ⟨s', sub', .inr h1, h2⟩
theorem alt_plan {ops : List Oper} {n : Nat} {P : List Nat} {s : Stage} {sub : PT} : ∀ {t : PT}, Alt s sub t → planA ops n P t = true →
    (isQ ops s.bar = false ∧ s.bar ∉ P ∧ s.bar < n ∧ ∀ i ∈ s.run, isQ ops i = true ∧ i ∉ P ∧ i ≠ s.bar) ∧ planGo ops n (app P (s.bar :: s.run)) s.rc sub = true
  | .nil, h, _ => h.elim
  | .cons s' sub' rest, h, hp => by
    simp only [planA, andb_iff] at hp
    rcases h with ⟨rfl, rfl⟩ | h
    · obtain ⟨h1, h2, h3⟩ := hp
      simp only [nob_iff, allN_iff, blt_iff, memb_not, andb_iff, beqN_f] at h1
      exact ⟨h1, by unfold planGo; simp only [andb_iff]; exact h2⟩
    · exact alt_plan h hp.2.2
def nextK (tab : Tab) (fs : FS) (call : ACall) (ops : List Oper) (R : Option Nat) (sub : PT) (K : St → Prop) : St → Prop := fun σ => forceS σ fun σ => stagesK tab fs call ops R sub σ K
theorem nextK_eq {tab : Tab} {fs : FS} {call : ACall} {ops : List Oper} {R : Option Nat} {sub : PT} {K : St → Prop} : nextK tab fs call ops R sub K = fun σ => stagesK tab fs call ops R sub σ K := by
  funext σ
  unfold nextK
  rw [forceS_eq]
theorem stages_one0 {tab : Tab} {fs : FS} {call : ACall} {ops : List Oper} {R : Option Nat} {s : Stage} {σ : St} {K : St → Prop} :
    stages tab fs call ops R (.cons s .nil .nil) σ K = stage1 tab fs call ops R s σ (nextK tab fs call ops R .nil K) := by kernel_rfl
theorem stages_one1 {tab : Tab} {fs : FS} {call : ACall} {ops : List Oper} {R : Option Nat} {s a : Stage} {b c : PT} {σ : St} {K : St → Prop} :
    stages tab fs call ops R (.cons s (.cons a b c) .nil) σ K = stage1 tab fs call ops R s σ (nextK tab fs call ops R (.cons a b c) K) := by kernel_rfl
theorem stages_two0 {tab : Tab} {fs : FS} {call : ACall} {ops : List Oper} {R : Option Nat} {s a : Stage} {b c : PT} {σ : St} {K : St → Prop} :
    stages tab fs call ops R (.cons s .nil (.cons a b c)) σ K = need (stage1 tab fs call ops R s σ (nextK tab fs call ops R .nil K)) (stages tab fs call ops R (.cons a b c) σ K) := by kernel_rfl
theorem stages_two1 {tab : Tab} {fs : FS} {call : ACall} {ops : List Oper} {R : Option Nat} {s a d : Stage} {b c e f : PT} {σ : St} {K : St → Prop} :
    stages tab fs call ops R (.cons s (.cons d e f) (.cons a b c)) σ K = need (stage1 tab fs call ops R s σ (nextK tab fs call ops R (.cons d e f) K)) (stages tab fs call ops R (.cons a b c) σ K) := by kernel_rfl
theorem stages_one {tab : Tab} {fs : FS} {call : ACall} {ops : List Oper} {R : Option Nat} {s : Stage} {sub : PT} {σ : St} {K : St → Prop} :
    stages tab fs call ops R (.cons s sub .nil) σ K = stage1 tab fs call ops R s σ fun σ => stagesK tab fs call ops R sub σ K := by
  rw [← nextK_eq]
  exact match sub with
  | .nil => stages_one0
  | .cons _ _ _ => stages_one1
theorem stages_two {tab : Tab} {fs : FS} {call : ACall} {ops : List Oper} {R : Option Nat} {s a : Stage} {sub b c : PT} {σ : St} {K : St → Prop} :
    stages tab fs call ops R (.cons s sub (.cons a b c)) σ K = need (stage1 tab fs call ops R s σ fun σ => stagesK tab fs call ops R sub σ K) (stages tab fs call ops R (.cons a b c) σ K) := by
  rw [← nextK_eq]
  exact match sub with
  | .nil => stages_two0
  | .cons _ _ _ => stages_two1
theorem alt_stage' {tab : Tab} {fs : FS} {call : ACall} {ops : List Oper} {R : Option Nat} {s : Stage} {sub : PT} {σ : St} {K : St → Prop} {Y : Prop} (hY : Y = stage1 tab fs call ops R s σ fun σ => stagesK tab fs call ops R sub σ K) :
    ∀ {t : PT}, Alt s sub t → ∀ X : Prop, X = stages tab fs call ops R t σ K → X → Y
  | .nil, h, _, _, _ => h.elim
  | .cons s' sub' .nil, .inl ⟨h1, h2⟩, X, hX, hs => by
    subst h1 h2
    rw [stages_one] at hX
    rw [hY, ← hX]; exact hs
  | .cons s' sub' .nil, .inr h, _, _, _ => h.elim
  | .cons s' sub' (.cons a b c), .inl ⟨h1, h2⟩, X, hX, hs => by
    subst h1 h2
    rw [stages_two] at hX
    rw [hX] at hs
    rw [hY]; exact hs.1
  | .cons s' sub' (.cons a b c), .inr h, X, hX, hs => by
    rw [stages_two] at hX
    rw [hX] at hs
    exact alt_stage' hY h _ rfl hs.2
theorem alt_stage {tab : Tab} {fs : FS} {call : ACall} {ops : List Oper} {R : Option Nat} {s : Stage} {sub : PT} {σ : St} {K : St → Prop} {t : PT} (h : Alt s sub t) (hs : stages tab fs call ops R t σ K) : stage1 tab fs call ops R s σ fun σ => stagesK tab fs call ops R sub σ K :=
  alt_stage' rfl h _ rfl hs

/-- The next one of those that come in turn, done. -/
theorem Inv.turn {listed : Array Bool} {Pr rc : List Nat} {s : Stage} {l t : PT} {σ : St} {E : Env} {a : Act} {w : World} (I : Inv tab fs call C ops R Q listed Pr rc t σ E a w) (hal : Alt s l t)
    {o : Oper} (ho : oget ops.toList s.bar = some o) (hp : ∀ j ∈ predsOf ops.toList s.bar, done listed j)
    {E' : Env} {w' : World} {tmA : List AV} {av : AV} {v : Value} {m' : List Blk} {k1 k2 : List Nat} {σ' : St}
    (hlen : tmA.length = σ.tm.length) (hA : ∀ t, Rel E w (lget σ.tm t) (a.tmps.toList.getD t undef) → Rel E' w' (lget tmA t) (a.tmps.toList.getD t undef))
    (hv : Rel E' w' av v) (hm : SatM C.B E' m' w') (hk : EKeep C.E0 C.w0 E' w' k1 k2)
    (hσ1 : σ'.mem = m') (hσ2 : σ'.k1 = k1) (hσ3 : σ'.k2 = k2) (hσ4 : σ'.tm.length = (putT tmA o.dst av).length)
    (hσ5 : ∀ t, (∀ j ∈ s.run, dstOf ops.toList j ≠ some t) → lget σ'.tm t = lget (putT tmA o.dst av) t)
    {K : Prop} (hch : checks tab ops.toList s.rc σ' K) (hst : stagesK tab fs call ops.toList R l σ' (Q .normal)) :
    Inv tab fs call C ops R Q (listed.setIfInBounds s.bar true) (app Pr (s.bar :: s.run)) s.rc l σ' E' (a.put o.dst v) w' := by
  have hplan := I.plan
  unfold planGo at hplan
  rw [andb_iff, andb_iff] at hplan
  obtain ⟨⟨hnq, hnp, hlt, hrun⟩, hnext⟩ := alt_plan hal hplan.2.2
  have hs : s.bar < listed.size := by rw [I.size]; exact hlt
  have hnd : ∀ j ∈ s.run, ¬ done (listed.setIfInBounds s.bar true) j := fun j hj h => by
    rcases (done_set hs).1 h with h | h
    · exact (hrun j hj).2.2 h
    · exact (hrun j hj).2.1 (I.sub j h)
  refine ⟨by simpa using I.size, hnext, checks_valid hch, hst, fun j hj => ?_, fun j hj hq => ?_, fun j hj k hk => (done_set hs).2 (.inr ?_), fun j hj => ?_, by rw [hσ1]; exact hm,
    by rw [put_size, hσ4, putT_len, hlen]; exact I.len, fun t ht => ?_, by rw [put_defers]; exact I.dfr, by rw [hσ2, hσ3]; exact hk⟩
  · rw [app_eq]
    rcases (done_set hs).1 hj with rfl | h
    · simp
    · simp [I.sub j h]
  · rw [app_eq] at hj
    rcases List.mem_append.1 hj with hj | hj
    · exact (done_set hs).2 (.inr (I.bars j hj hq))
    · rcases List.mem_cons.1 hj with rfl | hj
      · exact (done_set hs).2 (.inl rfl)
      · have := (hrun j hj).1; rw [this] at hq; cases hq
  · rcases (done_set hs).1 hj with rfl | h
    · exact hp k hk
    · exact I.closed j h k hk
  · rw [app_eq] at hj
    rcases List.mem_append.1 hj with hj | hj
    · exact I.lt j hj
    · rcases List.mem_cons.1 hj with rfl | hj
      · exact hlt
      · have hq := (hrun j hj).1
        unfold isQ at hq
        cases hg : oget ops.toList j with
        | none => rw [hg] at hq; cases hq
        | some oj =>
          have := oget_iff.1 hg
          have := (List.getElem?_eq_some_iff.1 this).1
          simpa using this
  · rw [hσ5 t (fun j hj => ht j (by rw [app_eq]; simp [hj]) (hnd j hj)), getD_put]
    by_cases hd : o.dst = some t ∧ t < a.tmps.size
    · rw [if_pos hd]
      have : lget (putT tmA o.dst av) t = av := by
        rw [hd.1]
        exact lget_lset_eq (by rw [hlen, I.len]; exact hd.2)
      rw [this]; exact hv
    · rw [if_neg hd]
      by_cases hd' : o.dst = some t
      · have hlt : ¬ t < a.tmps.size := fun h => hd ⟨hd', h⟩
        rw [lget_out (by rw [putT_len, hlen, I.len]; omega)]
        trivial
      · have : lget (putT tmA o.dst av) t = lget tmA t := by
          cases hod : o.dst with
          | none => rfl
          | some d =>
            rw [hod] at hd'
            exact lget_lset_ne (fun e => hd' (by rw [e]))
        rw [this]
        refine hA t (I.slots t fun j hj hn => ht j (by rw [app_eq]; simp [hj]) fun h => ?_)
        rcases (done_set hs).1 h with rfl | h
        · exact hnp hj
        · exact hn h

include hT hFS hC

theorem draw_main (hssa : ssaOK ops.toList ops.size = true) : ∀ (fuel : Nat) (listed : Array Bool) (Pr rc : List Nat) (l : PT) (σ : St) (E : Env) (a : Act) (w : World),
    Inv tab fs call C ops R Q listed Pr rc l σ E a w → cnt listed ops.size = fuel → wpAny P .any ops (PQ C Q) fuel listed a w := by
  have hssa' : ∀ j, j < ops.size → (∀ k ∈ predsOf ops.toList j, k < j) ∧ (isQ ops.toList j = true → rdD ops.toList j (dstOf ops.toList j) = false ∧
      ∀ i, i < ops.size → i = j ∨ (sameD (dstOf ops.toList i) (dstOf ops.toList j) = false ∧ (rdD ops.toList i (dstOf ops.toList j) = false ∨ j ∈ predsOf ops.toList i))) := by
    intro j hj
    have h := (allN_iff.1 hssa) j (mem_rng.2 hj)
    rw [andb_iff] at h
    refine ⟨fun k hk => blt_iff.1 (allN_iff.1 h.1 k hk), fun hq => ?_⟩
    have h2 := h.2
    rw [hq] at h2
    simp only [andb_iff, nob_iff, allN_iff, orb_iff, beqN, memb_iff, mem_rng] at h2
    exact ⟨h2.2.1, h2.2.2⟩
  have hfin : ∀ listed Pr rc l σ E a w, Inv tab fs call C ops R Q listed Pr rc l σ E a w → (∀ i, i < ops.size → done listed i) → PQ C Q .normal a w := by
    intro listed Pr rc l σ E a w I hall
    have hl : l = .nil := by
      cases l with
      | nil => rfl
      | cons s l r =>
        have hplan := I.plan
        unfold planGo at hplan
        rw [andb_iff, andb_iff] at hplan
        obtain ⟨⟨_, hnp, hlt, _⟩, _⟩ := alt_plan (show Alt s l (.cons s l r) from Or.inl ⟨rfl, rfl⟩) hplan.2.2
        exact absurd (I.sub _ (hall _ hlt)) hnp
    subst hl
    refine ⟨.normal, σ, E, I.rest, ⟨I.mem, relL_of_get (by simpa using I.len) fun t => I.slots t fun j hj hn => absurd (hall j (I.lt j hj)) hn, I.dfr, I.keep⟩, rfl⟩
  have hready : ∀ listed Pr rc l σ E a w, Inv tab fs call C ops R Q listed Pr rc l σ E a w → ∀ j, j ∈ Region.ready .any ops listed ↔ (j < ops.size ∧ ¬ done listed j ∧ ∀ k ∈ predsOf ops.toList j, done listed k) := by
    intro listed Pr rc l σ E a w I j
    rw [mem_ready]
    constructor
    · rintro ⟨h1, o, ho, h2⟩
      have hj : j < ops.size := (Array.getElem?_eq_some_iff.1 ho).1
      refine ⟨hj, ?_, fun k hk => ?_⟩
      · unfold done
        have hjs : j < listed.size := by rw [I.size]; exact hj
        simp [Array.getD_eq_getD_getElem?, hjs] at h1 ⊢
        exact h1
      · have hg : oget ops.toList j = some o := oget_iff.2 (by simpa using ho)
        simp only [predsOf, hg] at hk
        obtain ⟨e, he, hb, rfl⟩ := mem_edgesOf.1 hk
        exact h2 e (by simpa using he) hb
    · rintro ⟨hj, h1, h2⟩
      refine ⟨?_, ops[j], by simp [hj], fun e he hb => ?_⟩
      · unfold done at h1
        have hjs : j < listed.size := by rw [I.size]; exact hj
        simp [Array.getD_eq_getD_getElem?, hjs] at h1 ⊢
        exact h1
      · have hg : oget ops.toList j = some ops[j] := oget_iff.2 (by simp [hj])
        exact h2 e.on (by simp only [predsOf, hg]; exact mem_edgesOf.2 ⟨e, by simpa using he, hb, rfl⟩)
  have hdone : ∀ listed Pr rc l σ E a w, Inv tab fs call C ops R Q listed Pr rc l σ E a w → Region.ready .any ops listed = [] → ∀ i, i < ops.size → done listed i := by
    intro listed Pr rc l σ E a w I hr i
    induction i using Nat.strongRecOn with
    | _ i ih =>
      intro hi
      by_cases hd : done listed i
      · exact hd
      · have := (hready listed Pr rc l σ E a w I i).2 ⟨hi, hd, fun k hk => ih k ((hssa' i hi).1 k hk) (Nat.lt_trans ((hssa' i hi).1 k hk) hi)⟩
        rw [hr] at this; cases this
  intro fuel
  induction fuel with
  | zero =>
    intro listed Pr rc l σ E a w I hc
    have hall := cnt_zero hc
    refine ⟨?_, hfin _ _ _ _ _ _ _ _ I hall⟩
    apply List.eq_nil_iff_forall_not_mem.2
    intro j hj
    have := (hready _ _ _ _ _ _ _ _ I j).1 hj
    exact this.2.1 (hall j this.1)
  | succ fuel ih =>
    intro listed Pr rc l σ E a w I hc
    refine ⟨fun h0 => hfin _ _ _ _ _ _ _ _ I (hdone _ _ _ _ _ _ _ _ I h0), fun i hi => ?_⟩
    obtain ⟨hin, hnd, hpre⟩ := (hready _ _ _ _ _ _ _ _ I i).1 hi
    have hs : i < listed.size := by rw [I.size]; exact hin
    have hcnt : cnt (listed.setIfInBounds i true) ops.size = fuel := by have := cnt_set hs hnd ops.size hin; omega
    have hoA : ops[i]? = some ops[i] := by simp [hin]
    generalize hoE : ops[i] = o at hoA
    have ho : oget ops.toList i = some o := oget_iff.2 (by simpa using hoA)
    unfold wpOp
    rw [hoA]
    simp only
    -- what it reads is known
    have hrd : ∀ t ∈ rdsOf ops.toList i, Rel E w (lget σ.tm t) (a.tmps.toList.getD t undef) := by
      intro t ht
      refine I.slots t fun j hj hjn hjd => ?_
      have hq : isQ ops.toList j = true := by
        cases hq : isQ ops.toList j with
        | true => rfl
        | false => exact absurd (I.bars j hj hq) hjn
      obtain ⟨h1, h2⟩ := (hssa' j (I.lt j hj)).2 hq
      rcases h2 i hin with rfl | ⟨_, h3⟩
      · rw [hjd] at h1
        simp only [rdD, memb_not] at h1
        exact h1 ht
      · rw [hjd] at h3
        simp only [rdD, memb_not] at h3
        rcases h3 with h3 | h3
        · exact h3 ht
        · exact hjn (hpre j h3)
    have hsub : ∀ t, t ∈ tmpOf o.op.operands.toList → t ∈ rdsOf ops.toList i := by
      intro t ht
      unfold rdsOf
      rw [ho]
      simp only
      split
      · split
        · exact List.mem_cons_of_mem _ ht
        · exact ht
      · exact ht
    have hgs : ∀ j want t, o.guard = some (j, want) → dstOf ops.toList j = some t → Rel E w (lget σ.tm t) (a.tmps.toList.getD t undef) := by
      intro j want t h1 h2
      refine hrd t ?_
      unfold rdsOf
      rw [ho]
      simp only [h1, h2]
      exact List.mem_cons_self ..
    let ρA : Opd := fun x => match x with
      | .tmp t => if t ∈ rdsOf ops.toList i then lget σ.tm t else .bad
      | .const v => ofV v
      | .global _ => .bad
      | .func f => .fn (.func f) [] []
    have hρ : ∀ x, Rel E w (ρA x) (a.eval x) := by
      intro x
      cases x with
      | tmp t =>
        simp only [ρA]
        split
        · rename_i ht
          have := hrd t ht
          simpa [Act.eval, List.getD, Array.getD_eq_getD_getElem?] using this
        · trivial
      | const v => exact rel_ofV E w v
      | global g => exact trivial
      | func f => exact ⟨[], [], rfl, rfl, rfl⟩
    have hag : agree o.op.operands.toList (ev σ.tm) ρA := by
      intro x hx
      cases x with
      | tmp t => simp only [ev, ρA]; rw [if_pos (hsub t (mem_tmpOf.2 hx))]
      | const v => rfl
      | global g => rfl
      | func f => rfl
    have hplan := I.plan
    unfold planGo at hplan
    rw [andb_iff, andb_iff] at hplan
    have hwhere : i ∈ Pr ∨ ∃ s l', Alt s l' l ∧ s.bar = i := by
      have := (allN_iff.1 hplan.1) i (mem_rng.2 hin)
      simp only [orb_iff, memb_iff, anyN_iff, nob_iff, memb_not] at this
      rcases this with h | h | ⟨j, hj, hjP⟩
      · exact .inl h
      · exact .inr (alt_of_head h)
      · exact absurd (I.sub j (hpre j hj)) hjP
    rcases hwhere with hP | ⟨s, l', hal, rfl⟩
    · have hq : isQ ops.toList i = true := by
        cases hq : isQ ops.toList i with
        | true => rfl
        | false => exact absurd (I.bars i hP hq) hnd
      have hrc : i ∈ rc := by
        have hrcOK : rcOK ops.toList Pr rc = true := hplan.2.1
        have := (allN_iff.1 hrcOK) i hP
        simp only [orb_iff, nob_iff, memb_iff, anyN_iff, andb_iff] at this
        rcases this with h | h | ⟨k, hk, h1, h2⟩
        · rw [hq] at h; cases h
        · exact h
        · exact absurd (I.closed k (I.bars k hk h1) i h2) hnd
      obtain ⟨KK, hval⟩ := I.vals i hrc
      unfold valid at hval
      rw [ho] at hval
      simp only at hval
      rcases guarded_at hgs hval with ⟨hw, hy⟩ | ⟨hw, hno⟩
      · rw [if_pos hw]
        refine .inl ?_
        rw [qop_congr hag] at hy
        obtain ⟨v, av, h1, h2, h3⟩ := qop_sound hT I.mem hρ hy
        have h3 := (sameK_eq h3).1
        subst h3
        unfold Oper.wp
        refine upon_of_uponV ?_
        rw [h1]
        exact ih _ _ _ _ _ _ _ _ (I.wait ho hP hpre h2) hcnt
      · rw [if_neg (by simp [hw])]
        exact ih _ _ _ _ _ _ _ _ (I.wait ho hP hpre (by rw [(badK_eq hno).1]; rfl)) hcnt
    · have hst := I.rest
      have hst : stages tab fs call ops.toList R l σ (Q .normal) := by
        cases l with
        | nil => exact hal.elim
        | cons a b c => exact hst
      have hst := alt_stage hal hst
      simp only [stage1, ho] at hst
      rcases guarded_at hgs hst with ⟨hw, hy⟩ | ⟨hw, hno⟩
      · rw [if_pos hw]
        refine .inl ?_
        rw [xopF_congr hag] at hy
        unfold Oper.wp
        refine upon_of_uponV (xopF_sound hT hFS hC I.mem hρ hy fun out m0 h1 h2 E0 w' hK0 hM0 hE0 => ?_)
        obtain ⟨out2, m', k1, k2, E', hK, hM, hE, hret, hpan⟩ := mvK_sound hK0 hM0 hE0
        cases out with
        | ret av0 =>
          intro v hv0
          obtain ⟨av, rfl, hv⟩ := hret av0 v rfl hv0
          obtain ⟨σ', hch, h1, h2, h3, h4, h5⟩ := runQ_ex hK
          have hst' := checks_k hch
          refine ih _ _ _ _ _ _ _ _ (I.turn hal ho hpre (tmA := killF k1 k2 σ.tm) (killF_len _) (fun t ht => ?_) hv hM ?_ h1 h2 h3 h4 h5 hch hst') hcnt
          · rw [killF_get]; exact ht.keep hE
          · simp only [canK, after]; exact (I.keep.transU hE).sub (fun _ h => mem_ordN h) (fun _ h => mem_ordN h)
        | panic av => have := hpan av rfl; subst this; exact hK.elim
      · rw [if_neg (by simp [hw])]
        obtain ⟨σ', hch, h1, h2, h3, h4, h5⟩ := runQ_ex hno
        have hst' := checks_k hch
        exact ih _ _ _ _ _ _ _ _ (I.turn hal ho hpre (tmA := σ.tm) (av := .und) (v := undef) rfl (fun t ht => ht) rfl I.mem I.keep h1 h2 h3 h4 h5 hch hst') hcnt

/-- **Regions that draw their order.** -/
theorem draw_core (hm : P.follows .mixedOrders = true) {id : Nat} {σ : St} {q rc : List Nat} {l : PT} {E : Env} {w : World} {a : Act} (hplan : planOK ops.toList q rc l = true)
    (h : runQ tab ops.toList q σ fun σ => checks tab ops.toList rc σ (stagesK tab fs call ops.toList R l σ (Q .normal))) (hS : SatS C E w σ a) : (Code.region id ops true).wp P (PQ C Q) a w := by
  unfold planOK at hplan
  rw [andb_iff, andb_iff] at hplan
  obtain ⟨h1, h2, h3⟩ := hplan
  have hsz : ops.toList.length = ops.size := by simp
  rw [hsz] at h1 h3
  obtain ⟨σ', hch, e1, e2, e3, e4, e5⟩ := runQ_ex h
  have hst := checks_k hch
  have hq := allN_iff.1 h2
  refine wp_region_any hm (draw_main (R := R) hT hFS hC h1 ops.size _ q rc l σ' E a _ ?_ (cnt_start _ _ (Nat.le_refl _)))
  have hnd : ∀ i, ¬ done (Array.replicate ops.size false) i := by
    intro i hd
    unfold done at hd
    simp only [Array.getD_eq_getD_getElem?, Array.getElem?_replicate] at hd
    split at hd <;> simp at hd
  refine ⟨by simp, h3, checks_valid hch, hst, fun i hi => absurd hi (hnd i), fun i hi hb => ?_, fun i hi => absurd hi (hnd i), fun i hi => ?_, by rw [e1]; exact hS.mem.drew _, ?_, fun t ht => ?_, hS.dfr, ?_⟩
  · have := hq i hi; rw [this] at hb; cases hb
  · have hqi := hq i hi
    unfold isQ at hqi
    cases hg : oget ops.toList i with
    | none => rw [hg] at hqi; cases hqi
    | some oj =>
      have := (List.getElem?_eq_some_iff.1 (oget_iff.1 hg)).1
      simpa using this
  · rw [e4, ← hS.tm.length]; simp
  · rw [e5 t (fun j hj => ht j hj (hnd j))]
    have hk : EKeep E w E { w with drawn := w.drawn + 1 } [] [] := ⟨fun _ _ _ h => h, fun _ _ => rfl, fun _ _ _ h _ => ⟨h, fun _ _ h => h⟩⟩
    have := (hS.tm.get t).keep hk
    rwa [kill_nil] at this
  · rw [e2, e3]
    have hk : EKeep E w E { w with drawn := w.drawn + 1 } [] [] := ⟨fun _ _ _ h => h, fun _ _ => rfl, fun _ _ _ h _ => ⟨h, fun _ _ h => h⟩⟩
    have := hS.keep.trans hk
    simpa using this

theorem draw_ok0 (hm : P.follows .mixedOrders = true) (C : Ctx)  : ∀ id (ops : Array Oper) Q σ E w a, adraw0 tab fs call ops.toList Q σ → SatS C E w σ a → (Code.region id ops true).wp P (PQ C Q) a w := by
  intro id ops Q σ E w a h hS
  unfold adraw0 at h
  simp only [forceL_eq, forceT_eq] at h
  simp only [Array.length_toList] at h
  generalize closeQ ops.toList (rng ops.size) [] = q at h
  generalize pend ops.toList q q = rc at h
  generalize mkStages ops.toList ops.size ops.size q = l at h
  split at h
  · rename_i hplan
    split at h
    · rw [forceN_eq] at h
      exact draw_core hT hFS hC hm hplan h ⟨hS.mem.deads _, hS.tm, hS.dfr, hS.keep⟩
    · exact draw_core hT hFS hC hm hplan h hS
  · exact h.elim
end main

/-! ### regions that draw their order and change nothing in memory -/
theorem qR_mem {r : RE} : ∀ {L : List QE}, r ∈ qR L ↔ ∃ e ∈ L, e.d = some r.t ∧ e.v = .bool r.b ∧ e.j = r.j ∧ e.c = r.c
  | [] => by simp [qR]
  | e :: l => by
    unfold qR
    split
    · rename_i t b hd hv
      rw [List.mem_cons, qR_mem]
      constructor
      · rintro (rfl | ⟨e', h1, h2⟩)
        · exact ⟨e, by simp, hd, hv, rfl, rfl⟩
        · exact ⟨e', by simp [h1], h2⟩
      · rintro ⟨e', h1, h2, h3, h4, h5⟩
        rcases List.mem_cons.1 h1 with rfl | h1
        · left
          rw [hd] at h2; rw [hv] at h3
          cases r
          simp only [Option.some.injEq, AV.bool.injEq] at h2 h3 h4 h5
          subst h2 h3 h4 h5
          rfl
        · exact .inr ⟨e', h1, h2, h3, h4, h5⟩
    · rename_i hno
      rw [qR_mem]
      constructor
      · rintro ⟨e', h1, h2⟩; exact ⟨e', by simp [h1], h2⟩
      · rintro ⟨e', h1, h2, h3, h4⟩
        rcases List.mem_cons.1 h1 with rfl | h1
        · exact absurd h3 (hno _ _ h2)
        · exact ⟨e', h1, h2, h3, h4⟩
theorem qG_mem {g : GE} : ∀ {L : List QE}, g ∈ qG L → ∃ e ∈ L, e.d = some g.t ∧ e.c = g.c ∧ e.v = g.v
  | [], h => by simp [qG] at h
  | e :: l, h => by
    unfold qG at h
    split at h
    · rename_i t x c hd hc
      rcases List.mem_cons.1 h with rfl | h
      · exact ⟨e, by simp, hd, hc, rfl⟩
      · obtain ⟨e', h1, h2⟩ := qG_mem h; exact ⟨e', by simp [h1], h2⟩
    · obtain ⟨e', h1, h2⟩ := qG_mem h; exact ⟨e', by simp [h1], h2⟩
theorem qfilt_mem {P : List Nat} {e : QE} : ∀ {L : List QE}, e ∈ qfilt P L ↔ e ∈ L ∧ e.j ∈ P
  | [] => by simp [qfilt]
  | x :: l => by
    unfold qfilt
    split
    · rename_i h
      rw [List.mem_cons, qfilt_mem, List.mem_cons]
      constructor
      · rintro (rfl | h1)
        · exact ⟨.inl rfl, memb_iff.1 h⟩
        · exact ⟨.inr h1.1, h1.2⟩
      · rintro ⟨rfl | h1, h2⟩
        · exact .inl rfl
        · exact .inr ⟨h1, h2⟩
    · rename_i h
      rw [qfilt_mem, List.mem_cons]
      constructor
      · exact fun h1 => ⟨.inr h1.1, h1.2⟩
      · rintro ⟨rfl | h1, h2⟩
        · exact absurd h2 (memb_not.1 h)
        · exact ⟨h1, h2⟩
theorem qfilt_push {P : List Nat} {e : QE} {L : List QE} (h : e.j ∉ P) : qfilt P (e :: L) = qfilt P L := by
  simp only [qfilt, memb_not.2 h]
theorem rlook_filt {P : List Nat} {j : Nat} (hj : j ∈ P) : ∀ {L : List QE}, rlook (qR (qfilt P L)) j = rlook (qR L) j
  | [] => rfl
  | e :: l => by
    by_cases he : e.j ∈ P
    · unfold qfilt
      rw [memb_iff.2 he]
      simp only [qR]
      split
      · simp only [rlook]; split
        · rfl
        · exact rlook_filt hj
      · exact rlook_filt hj
    · rw [qfilt_push he]
      have hne : Nat.beq e.j j = false := beqN_f.2 fun h => he (by rw [h]; exact hj)
      rw [rlook_filt hj]
      simp only [qR]
      split
      · simp only [rlook, hne]
      · rfl
theorem gv_filt {P : List Nat} {L : List QE} {c : Chain} (h : ∀ x ∈ c, x.1 ∈ P) : gv (qR (qfilt P L)) c = gv (qR L) c := by
  apply bool_ext
  rw [gv_iff, gv_iff]
  constructor
  · intro hx x hc; obtain ⟨e, h1, h2⟩ := hx x hc; exact ⟨e, by rw [← rlook_filt (h x hc)]; exact h1, h2⟩
  · intro hx x hc; obtain ⟨e, h1, h2⟩ := hx x hc; exact ⟨e, by rw [rlook_filt (h x hc)]; exact h1, h2⟩
theorem qT_len {tm : List AV} : ∀ L : List QE, (qT tm L).length = tm.length
  | [] => rfl
  | e :: l => by
    unfold qT
    split
    · rw [putT_len, qT_len]
    · exact qT_len l
theorem putT_get {tm : List AV} {d : Option Tmp} {v : AV} {t : Nat} : lget (putT tm d v) t = lget tm t ∨ (d = some t ∧ lget (putT tm d v) t = v) := by
  cases d with
  | none => exact .inl rfl
  | some s =>
    by_cases hts : t = s
    · subst hts
      by_cases hlt : t < tm.length
      · exact .inr ⟨rfl, lget_lset_eq hlt⟩
      · refine .inl ?_
        rw [lget_out (by rw [putT_len]; omega), lget_out (by omega)]
    · exact .inl (lget_lset_ne hts)
theorem qT_get {tm : List AV} {t : Nat} : ∀ {L : List QE}, lget (qT tm L) t = lget tm t ∨ ∃ e ∈ L, e.c = [] ∧ e.d = some t ∧ lget (qT tm L) t = e.v
  | [] => .inl rfl
  | e :: l => by
    unfold qT
    split
    · rename_i hc
      rcases putT_get (tm := qT tm l) (d := e.d) (v := e.v) (t := t) with h | ⟨h1, h2⟩
      · rw [h]
        rcases qT_get (tm := tm) (t := t) (L := l) with h | ⟨e', h1, h2, h3, h4⟩
        · exact .inl h
        · exact .inr ⟨e', by simp [h1], h2, h3, h4⟩
      · exact .inr ⟨e, by simp, hc, h1, h2⟩
    · rcases qT_get (tm := tm) (t := t) (L := l) with h | ⟨e', h1, h2, h3, h4⟩
      · exact .inl h
      · exact .inr ⟨e', by simp [h1], h2, h3, h4⟩
theorem clrT_len {tm : List AV} : ∀ l : List Oper, (clrT tm l).length = tm.length
  | [] => rfl
  | o :: l => by unfold clrT; rw [putT_len, clrT_len]
theorem clrT_get {tm : List AV} {t : Nat} : ∀ {l : List Oper}, lget (clrT tm l) t = lget tm t ∨ lget (clrT tm l) t = .bad
  | [] => .inl rfl
  | o :: l => by
    unfold clrT
    rcases putT_get (tm := clrT tm l) (d := o.dst) (v := .bad) (t := t) with h | ⟨_, h2⟩
    · rw [h]; exact clrT_get
    · exact .inr h2
theorem clrT_bad {tm : List AV} {t : Nat} : ∀ {l : List Oper} {o : Oper}, o ∈ l → o.dst = some t → lget (clrT tm l) t = .bad
  | [], _, h, _ => by cases h
  | x :: l, o, h, hd => by
    simp only [clrT]
    rcases putT_get (tm := clrT tm l) (d := x.dst) (v := .bad) (t := t) with h1 | ⟨_, h2⟩
    · rcases List.mem_cons.1 h with h3 | h3
      · subst h3
        by_cases hlt : t < (clrT tm l).length
        · rw [hd]; exact lget_lset_eq hlt
        · rw [h1]; exact lget_out (Nat.not_lt.1 hlt)
      · rw [h1]; exact clrT_bad h3 hd
    · exact h2
theorem mem_qclo {L : List QE} {k : Nat} : ∀ {l : List Nat}, k ∈ qclo L l ↔ ∃ p ∈ l, k = p ∨ k ∈ qlook L p
  | [] => by simp [qclo]
  | p :: l => by
    unfold qclo
    rw [mem_uniN, List.mem_cons, mem_qclo]
    constructor
    · rintro ((rfl | h) | ⟨q, h1, h2⟩)
      · exact ⟨k, by simp, .inl rfl⟩
      · exact ⟨p, by simp, .inr h⟩
      · exact ⟨q, by simp [h1], h2⟩
    · rintro ⟨q, h1, h2⟩
      rcases List.mem_cons.1 h1 with rfl | h1
      · exact .inl (h2.imp id id)
      · exact .inr ⟨q, h1, h2⟩
theorem qlook_mem {k n : Nat} : ∀ {L : List QE}, k ∈ qlook L n → ∃ e ∈ L, e.j = n ∧ k ∈ e.cl
  | [], h => by simp [qlook] at h
  | e :: l, h => by
    unfold qlook at h
    split at h
    · rename_i hb; exact ⟨e, by simp, beq_true hb, h⟩
    · obtain ⟨e', h1, h2⟩ := qlook_mem h; exact ⟨e', by simp [h1], h2⟩
theorem qlook_of {L : List QE} (hu : ∀ e ∈ L, ∀ e' ∈ L, e.j = e'.j → e = e') {e : QE} (he : e ∈ L) : qlook L e.j = e.cl := by
  induction L with
  | nil => cases he
  | cons x l ih =>
    unfold qlook
    cases hb : Nat.beq x.j e.j with
    | true => simp only; rw [hu x (by simp) e he (beq_true hb)]
    | false =>
      simp only
      rcases List.mem_cons.1 he with rfl | he
      · exact absurd rfl (beqN_f.1 hb)
      · exact ih (fun a ha b hb => hu a (by simp [ha]) b (by simp [hb])) he

section drawq
variable {P : Program} {tab : Tab} {fs : FS} (hT : TabOK P tab) (hF : FSOK P fs) {C : Ctx} {ops : Array Oper} (σ : St)

/-- What is known of an entry ahead of any run. -/
structure QS (tab : Tab) (fs : FS) (ops : Array Oper) (σ : St) (pall : List Prop) (L : List QE) (e : QE) : Prop where
  op : ∃ o qs, oget ops.toList e.j = some o ∧ e.d = o.dst ∧ gchain (qR (qfilt e.cl L)) o = some e.c ∧
    gvalN tab fs ops.toList o (qR (qfilt e.cl L)) (qG (qfilt e.cl L)) e.c { σ with tm := qT σ.tm (qfilt e.cl L) } = some (qs, e.v) ∧ (AllP pall → AllP (gateL (qR (qfilt e.cl L)) e.c qs))
  lt : ∀ k ∈ e.cl, k < e.j
  pre : ∀ p ∈ predsOf ops.toList e.j, p ∈ e.cl
  clo : ∀ k ∈ e.cl, k ∈ predsOf ops.toList e.j ∨ ∃ e' ∈ L, e'.j ∈ predsOf ops.toList e.j ∧ k ∈ e'.cl
  up : ∀ e' ∈ L, e'.j ∈ e.cl → ∀ k ∈ e'.cl, k ∈ e.cl
  ch : ∀ x ∈ e.c, x.1 ∈ e.cl

theorem QS.push {pall : List Prop} {L : List QE} {e n : QE} (h : QS tab fs ops σ pall L e) (hn : e.j < n.j) : QS tab fs ops σ pall (n :: L) e := by
  have hno : n.j ∉ e.cl := fun hk => by have := h.lt _ hk; omega
  refine ⟨?_, h.lt, h.pre, fun k hk => ?_, fun e' he' hj => ?_, h.ch⟩
  · rw [qfilt_push hno]; exact h.op
  · rcases h.clo k hk with h1 | ⟨e', h1, h2⟩
    · exact .inl h1
    · exact .inr ⟨e', by simp [h1], h2⟩
  · rcases List.mem_cons.1 he' with rfl | he'
    · exact absurd hj hno
    · exact h.up e' he' hj

theorem gopsQ_static (hpre : ∀ j, j < ops.size → ∀ k ∈ predsOf ops.toList j, k < j) : ∀ {l : List Oper} {i : Nat} {L L' : List QE} {ps ps' : List Prop}, gopsQ tab fs ops.toList σ l i L ps = some (ps', L') →
    ops.toList.drop i = l → (∀ e ∈ L, e.j < i) → (∀ e ∈ L, ∀ e' ∈ L, e.j = e'.j → e = e') → (∀ k, k < i → ∃ e ∈ L, e.j = k) →
    (AllP ps' → AllP ps) ∧ ((∀ e ∈ L, QS tab fs ops σ ps' L e) → (∀ e ∈ L', QS tab fs ops σ ps' L' e) ∧ (∀ e ∈ L', ∀ e' ∈ L', e.j = e'.j → e = e') ∧ (∀ k, k < ops.size → ∃ e ∈ L', e.j = k) ∧ ∀ e ∈ L', e.j < ops.size)
  | [], i, L, L', ps, ps', h, hl, hlt, hu, hc => by
    simp only [gopsQ, Option.some.injEq, Prod.mk.injEq] at h
    obtain ⟨rfl, rfl⟩ := h
    have hi : ops.size ≤ i := by have := congrArg List.length hl; simp at this; omega
    refine ⟨id, fun hs => ⟨hs, hu, fun k hk => hc k (by omega), fun e he => ?_⟩⟩
    obtain ⟨o, _, ho, _⟩ := (hs e he).op
    have := (List.getElem?_eq_some_iff.1 (oget_iff.1 ho)).1
    simpa using this
  | o :: rest, i, L, L', ps, ps', h, hl, hlt, hu, hc => by
    simp only [gopsQ] at h
    cases hch : gchain (qR (qfilt (qclo L (predsOf ops.toList i)) L)) o with
    | none => rw [hch] at h; cases h
    | some ch =>
      rw [hch] at h
      simp only at h
      cases hv : gvalN tab fs ops.toList o (qR (qfilt (qclo L (predsOf ops.toList i)) L)) (qG (qfilt (qclo L (predsOf ops.toList i)) L)) ch { σ with tm := qT σ.tm (qfilt (qclo L (predsOf ops.toList i)) L) } with
      | none => rw [hv] at h; cases h
      | some r =>
        obtain ⟨qs, v⟩ := r
        rw [hv] at h
        simp only at h
        have ho : ops.toList[i]? = some o := by
          have : (ops.toList.drop i)[0]? = some o := by rw [hl]; rfl
          simpa [List.getElem?_drop] using this
        have hl' : ops.toList.drop (i + 1) = rest := by
          have := congrArg (List.drop 1) hl
          simpa [List.drop_drop] using this
        have hin : i < ops.size := by have := (List.getElem?_eq_some_iff.1 ho).1; simpa using this
        have hpc : ∀ p ∈ predsOf ops.toList i, ∃ e ∈ L, e.j = p := fun p hp => hc p (hpre i hin p hp)
        have hcl : ∀ k, k ∈ qclo L (predsOf ops.toList i) ↔ k ∈ predsOf ops.toList i ∨ ∃ e' ∈ L, e'.j ∈ predsOf ops.toList i ∧ k ∈ e'.cl := by
          intro k
          rw [mem_qclo]
          constructor
          · rintro ⟨p, hp, rfl | hk⟩
            · exact .inl hp
            · obtain ⟨e', h1, h2, h3⟩ := qlook_mem hk
              exact .inr ⟨e', h1, by rw [h2]; exact hp, h3⟩
          · rintro (hp | ⟨e', h1, h2, h3⟩)
            · exact ⟨k, hp, .inl rfl⟩
            · exact ⟨e'.j, h2, .inr (by rw [qlook_of hu h1]; exact h3)⟩
        obtain ⟨h1, h2⟩ := gopsQ_static hpre h hl' (fun e he => by
            rcases List.mem_cons.1 he with rfl | he
            · exact Nat.lt_succ_self _
            · exact Nat.lt_succ_of_lt (hlt e he)) (fun e he e' he' hj => by
            rcases List.mem_cons.1 he with rfl | he <;> rcases List.mem_cons.1 he' with rfl | he'
            · rfl
            · have := hlt e' he'; simp only at hj; omega
            · have := hlt e he; simp only at hj; omega
            · exact hu e he e' he' hj) (fun k hk => by
            rcases Nat.lt_succ_iff_lt_or_eq.1 hk with hk | hk
            · obtain ⟨e, he, hj⟩ := hc k hk; exact ⟨e, by simp [he], hj⟩
            · exact ⟨_, List.mem_cons_self .., hk.symm⟩)
        rw [app_eq] at h1
        refine ⟨fun hp => (allP_app.1 (h1 hp)).1, fun hs => h2 fun e he => ?_⟩
        rcases List.mem_cons.1 he with rfl | he
        · have hltc : ∀ k ∈ qclo L (predsOf ops.toList i), k < i := by
            intro k hk
            rcases (hcl k).1 hk with hp | ⟨e', h3, h4, h5⟩
            · exact hpre i hin k hp
            · have := (hs e' h3).lt k h5; have := hpre i hin _ h4; omega
          have hno : i ∉ qclo L (predsOf ops.toList i) := fun hk => by have := hltc _ hk; omega
          have hup : ∀ e' ∈ L, e'.j ∈ qclo L (predsOf ops.toList i) → ∀ k ∈ e'.cl, k ∈ qclo L (predsOf ops.toList i) := by
            intro e' he' hj k hk
            rcases (hcl _).1 hj with hp | ⟨e2, h3, h4, h5⟩
            · exact (hcl k).2 (.inr ⟨e', he', hp, hk⟩)
            · exact (hcl k).2 (.inr ⟨e2, h3, h4, (hs e2 h3).up e' he' h5 k hk⟩)
          refine ⟨⟨o, qs, oget_iff.2 ho, rfl, ?_, ?_, fun hp => ?_⟩, hltc, fun p hp => (hcl p).2 (.inl hp), fun k hk => ?_, fun e' he' hj => ?_, fun x hx => ?_⟩
          · show gchain (qR (qfilt (qclo L (predsOf ops.toList i)) (_ :: L))) o = some ch
            rw [qfilt_push (by exact hno)]; exact hch
          · show gvalN tab fs ops.toList o (qR (qfilt (qclo L (predsOf ops.toList i)) (_ :: L))) (qG (qfilt (qclo L (predsOf ops.toList i)) (_ :: L))) ch { σ with tm := qT σ.tm (qfilt (qclo L (predsOf ops.toList i)) (_ :: L)) } = some (qs, v)
            rw [qfilt_push (by exact hno)]; exact hv
          · show AllP (gateL (qR (qfilt (qclo L (predsOf ops.toList i)) (_ :: L))) ch qs)
            rw [qfilt_push (by exact hno)]; exact (allP_app.1 (h1 hp)).2
          · rcases (hcl k).1 hk with hp | ⟨e', h3, h4⟩
            · exact .inl hp
            · exact .inr ⟨e', by simp [h3], h4⟩
          · rcases List.mem_cons.1 he' with rfl | he'
            · exact absurd hj hno
            · exact hup e' he' hj
          · have hx : x ∈ ch := hx
            unfold gchain at hch
            split at hch
            · cases hch; cases hx
            · rename_i j w hg
              split at hch
              · rename_i r hr
                cases hch
                have hm := rlook_some hr
                obtain ⟨e', g1, g2, g3, g4, g5⟩ := qR_mem.1 hm.1
                have g1 := qfilt_mem.1 g1
                rcases List.mem_cons.1 hx with rfl | hx
                · show j ∈ _
                  rw [← hm.2, ← g4]; exact g1.2
                · rw [← g5] at hx
                  exact hup e' g1.1 g1.2 _ ((hs e' g1.1).ch x hx)
              · cases hch
        · exact QS.push σ (hs e he) (hlt e he)

structure QI (C : Ctx) (ops : Array Oper) (σ : St) (L : List QE) (listed : Array Bool) (E : Env) (a : Act) (w : World) : Prop where
  size : listed.size = ops.size
  closed : ∀ i, done listed i → ∀ j ∈ predsOf ops.toList i, done listed j
  mem : SatM C.B E σ.mem w
  len : σ.tm.length = a.tmps.size
  keep : EKeep C.E0 C.w0 E w σ.k1 σ.k2
  dfr : a.defers = []
  base : ∀ t, Rel E w (lget σ.tm t) (a.tmps.toList.getD t undef)
  vals : ∀ e ∈ L, done listed e.j → ∀ t, e.d = some t → (gv (qR L) e.c = true → Rel E w e.v (a.tmps.toList.getD t undef)) ∧ (gv (qR L) e.c = false → a.tmps.toList.getD t undef = undef)

theorem QI.sat {L : List QE} {listed : Array Bool} {E : Env} {a : Act} {w : World} (I : QI C ops σ L listed E a w) {S : List QE} (hS : ∀ e ∈ S, e ∈ L ∧ done listed e.j) : SatS C E w { σ with tm := qT σ.tm S } a := by
  refine ⟨I.mem, relL_of_get (by rw [qT_len]; simpa using I.len) fun t => ?_, I.dfr, I.keep⟩
  rcases qT_get (tm := σ.tm) (t := t) (L := S) with h | ⟨e, h1, h2, h3, h4⟩
  · rw [h]; exact I.base t
  · rw [h4]
    exact ((I.vals e (hS e h1).1 (hS e h1).2 t h3).1) (by rw [h2]; rfl)

include hT hF in
theorem drawQ_main {Q : AExit → St → Prop} {pall : List Prop} (hall : AllP pall) {L : List QE} (hs : ∀ e ∈ L, QS tab fs ops σ pall L e) (hu : ∀ e ∈ L, ∀ e' ∈ L, e.j = e'.j → e = e') (hc : ∀ k, k < ops.size → ∃ e ∈ L, e.j = k)
    (hd : ∀ e ∈ L, ∀ t, e.d = some t → t < σ.tm.length ∧ lget σ.tm t = .bad ∧ ∀ e' ∈ L, e'.d = some t → e' = e) (hQ : Q .normal { σ with tm := qT σ.tm L }) :
    ∀ (fuel : Nat) (listed : Array Bool) (E : Env) (a : Act) (w : World), QI C ops σ L listed E a w → cnt listed ops.size = fuel → wpAny P .any ops (PQ C Q) fuel listed a w := by
  have hlt : ∀ e ∈ L, e.j < ops.size := by
    intro e he
    obtain ⟨o, _, ho, _⟩ := (hs e he).op
    have := (List.getElem?_eq_some_iff.1 (oget_iff.1 ho)).1
    simpa using this
  have hfin : ∀ listed E a w, QI C ops σ L listed E a w → (∀ i, i < ops.size → done listed i) → PQ C Q .normal a w := fun listed E a w I hall =>
    ⟨.normal, _, E, hQ, I.sat σ (S := L) fun e he => ⟨he, hall _ (hlt e he)⟩, rfl⟩
  have hready : ∀ listed E a w, QI C ops σ L listed E a w → ∀ j, j ∈ Region.ready .any ops listed ↔ (j < ops.size ∧ ¬ done listed j ∧ ∀ k ∈ predsOf ops.toList j, done listed k) := by
    intro listed E a w I j
    rw [mem_ready]
    constructor
    · rintro ⟨h1, o, ho, h2⟩
      have hj : j < ops.size := (Array.getElem?_eq_some_iff.1 ho).1
      refine ⟨hj, ?_, fun k hk => ?_⟩
      · unfold done
        have hjs : j < listed.size := by rw [I.size]; exact hj
        simp [Array.getD_eq_getD_getElem?, hjs] at h1 ⊢
        exact h1
      · have hg : oget ops.toList j = some o := oget_iff.2 (by simpa using ho)
        simp only [predsOf, hg] at hk
        obtain ⟨e, he, hb, rfl⟩ := mem_edgesOf.1 hk
        exact h2 e (by simpa using he) hb
    · rintro ⟨hj, h1, h2⟩
      refine ⟨?_, ops[j], by simp [hj], fun e he hb => ?_⟩
      · unfold done at h1
        have hjs : j < listed.size := by rw [I.size]; exact hj
        simp [Array.getD_eq_getD_getElem?, hjs] at h1 ⊢
        exact h1
      · have hg : oget ops.toList j = some ops[j] := oget_iff.2 (by simp [hj])
        exact h2 e.on (by simp only [predsOf, hg]; exact mem_edgesOf.2 ⟨e, by simpa using he, hb, rfl⟩)
  have hdone : ∀ listed E a w, QI C ops σ L listed E a w → Region.ready .any ops listed = [] → ∀ i, i < ops.size → done listed i := by
    intro listed E a w I hr i
    induction i using Nat.strongRecOn with
    | _ i ih =>
      intro hi
      by_cases hdn : done listed i
      · exact hdn
      · obtain ⟨e, he, rfl⟩ := hc i hi
        have := (hready listed E a w I e.j).2 ⟨hi, hdn, fun k hk => by
          have := (hs e he).lt k ((hs e he).pre k hk)
          exact ih k this (Nat.lt_trans this hi)⟩
        rw [hr] at this; cases this
  have hclo : ∀ listed E a w, QI C ops σ L listed E a w → ∀ n e, e ∈ L → e.j = n → (∀ j ∈ predsOf ops.toList e.j, done listed j) → ∀ k ∈ e.cl, done listed k := by
    intro listed E a w I n
    induction n using Nat.strongRecOn with
    | _ n ih =>
      intro e he hn hp k hk
      rcases (hs e he).clo k hk with h1 | ⟨e', h1, h2, h3⟩
      · exact hp k h1
      · have hd' := hp _ h2
        exact ih e'.j (by have := (hs e he).lt _ ((hs e he).pre _ h2); omega) e' h1 rfl (I.closed _ hd') k h3
  intro fuel
  induction fuel with
  | zero =>
    intro listed E a w I hcn
    have hall := cnt_zero hcn
    refine ⟨?_, hfin _ _ _ _ I hall⟩
    apply List.eq_nil_iff_forall_not_mem.2
    intro j hj
    have := (hready _ _ _ _ I j).1 hj
    exact this.2.1 (hall j this.1)
  | succ fuel ih =>
    intro listed E a w I hcn
    refine ⟨fun h0 => hfin _ _ _ _ I (hdone _ _ _ _ I h0), fun i hi => ?_⟩
    obtain ⟨hin, hnd, hpre⟩ := (hready _ _ _ _ I i).1 hi
    obtain ⟨e, he, rfl⟩ := hc i hin
    have hsz : e.j < listed.size := by rw [I.size]; exact hin
    have hcnt : cnt (listed.setIfInBounds e.j true) ops.size = fuel := by have := cnt_set hsz hnd ops.size hin; omega
    obtain ⟨o, qs, ho, hdo, hch, hv, hqs⟩ := (hs e he).op
    have hoA : ops[e.j]? = some o := by simpa using oget_iff.1 ho
    unfold wpOp
    rw [hoA]
    simp only
    have hcd := hclo listed E a w I e.j e he rfl hpre
    have hSm : ∀ e' ∈ qfilt e.cl L, e' ∈ L ∧ done listed e'.j := fun e' h' => ⟨(qfilt_mem.1 h').1, hcd _ (qfilt_mem.1 h').2⟩
    have hS := I.sat σ hSm
    have hgf : ∀ e' ∈ qfilt e.cl L, gv (qR (qfilt e.cl L)) e'.c = gv (qR L) e'.c := fun e' h' => gv_filt fun x hx => (hs e he).up e' (qfilt_mem.1 h').1 (qfilt_mem.1 h').2 _ ((hs e' (qfilt_mem.1 h').1).ch x hx)
    have hge : gv (qR (qfilt e.cl L)) e.c = gv (qR L) e.c := gv_filt fun x hx => (hs e he).ch x hx
    have hlt' : ∀ e' ∈ qfilt e.cl L, e'.j < e.j ∧ ∀ x ∈ e'.c, x.1 < e.j := fun e' h' => by
      have h1 := (hs e he).lt _ (qfilt_mem.1 h').2
      exact ⟨h1, fun x hx => by have := (hs e' (qfilt_mem.1 h').1).lt _ ((hs e' (qfilt_mem.1 h').1).ch x hx); omega⟩
    have hR : GR ops (qR (qfilt e.cl L)) e.j a := by
      intro r hr
      obtain ⟨e', h1, h2, h3, h4, h5⟩ := qR_mem.1 hr
      have hval := I.vals e' (hSm e' h1).1 (hSm e' h1).2 _ h2
      obtain ⟨o', _, ho', hdo', _⟩ := (hs e' (hSm e' h1).1).op
      rw [← h5, ← h4, hgf e' h1]
      refine ⟨(hlt' e' h1).1, (hlt' e' h1).2, ⟨o', by simpa using oget_iff.1 ho', by rw [← hdo']; exact h2⟩, fun hg => ?_, hval.2⟩
      have := hval.1 hg
      rw [h3] at this
      exact this
    have hG : GG (qR (qfilt e.cl L)) (qG (qfilt e.cl L)) e.j E w a := by
      intro g hg
      obtain ⟨e', h1, h2, h3, h4⟩ := qG_mem hg
      have hval := I.vals e' (hSm e' h1).1 (hSm e' h1).2 _ h2
      rw [← h3, ← h4, hgf e' h1]
      exact ⟨(hlt' e' h1).2, hval⟩
    have hw := wanted_gv hR hch
    have step : ∀ val E' w', SatM C.B E' σ.mem w' → EKeep E w E' w' [] [] → (gv (qR L) e.c = true → Rel E' w' e.v val) → (gv (qR L) e.c = false → val = undef) → wpAny P .any ops (PQ C Q) fuel (listed.setIfInBounds e.j true) (a.put o.dst val) w' := by
      intro val E' w' hM hk h1 h2
      have hkr : ∀ {x : AV} {u : Value}, Rel E w x u → Rel E' w' x u := fun h => by have := h.keep hk; rwa [kill_nil] at this
      refine ih _ E' _ w' ⟨by simpa using I.size, fun j hj k hkp => (done_set hsz).2 (.inr ?_), hM, by rw [put_size]; exact I.len, by simpa [uni] using I.keep.transU hk, by rw [put_defers]; exact I.dfr, fun t => ?_, fun e' he' hdn t ht => ?_⟩ hcnt
      · rcases (done_set hsz).1 hj with rfl | hj
        · exact hpre k hkp
        · exact I.closed j hj k hkp
      · rw [getD_put]
        split
        · rename_i hdt
          have := (hd e he t (by rw [hdo]; exact hdt.1)).2.1
          rw [this]; trivial
        · exact hkr (I.base t)
      · rw [getD_put]
        by_cases hee : e' = e
        · subst hee
          have hin' := (hd e' he t ht).1
          rw [if_pos ⟨by rw [← hdo]; exact ht, by rw [← I.len]; exact hin'⟩]
          exact ⟨h1, h2⟩
        · rw [if_neg (fun hdt => hee ((hd e he t (by rw [hdo]; exact hdt.1)).2.2 e' he' ht))]
          rcases (done_set hsz).1 hdn with hj | hdn
          · exact absurd (hu e' he' e he hj) hee
          · have := I.vals e' he' hdn t ht
            exact ⟨fun hg => hkr (this.1 hg), this.2⟩
    cases hcg : gv (qR (qfilt e.cl L)) e.c with
    | true =>
      rw [if_pos (by rw [hw, hcg])]
      refine .inl ?_
      unfold Oper.wp
      have hp' : AllP qs := by
        have hp := hqs hall
        unfold gateL at hp
        split at hp
        · exact hp
        · exact allP_impL.1 hp hcg
      exact upon_of_uponV (gvalN_sound hT hF hS hR hG hcg hv hp' fun v E' w' hM hk hr => step v E' w' hM hk (fun _ => hr) (fun h => by rw [← hge, hcg] at h; cases h))
    | false =>
      rw [if_neg (by rw [hw, hcg]; simp)]
      exact step undef E w I.mem (EKeep.refl E w) (fun h => by rw [← hge, hcg] at h; cases h) (fun _ => rfl)

include hT hF in
theorem drawQ_ok (hm : P.follows .mixedOrders = true) {σ' : St} {ps : List Prop} (h : drawQ tab fs ops.toList σ = some (ps, σ')) (hp : AllP ps) {id : Nat} {Q : AExit → St → Prop} (hQ : Q .normal σ') {E : Env} {w : World} {a : Act} (hS : SatS C E w σ a) :
    (Code.region id ops true).wp P (PQ C Q) a w := by
  unfold drawQ at h
  split at h
  · cases h
  · rename_i hok
    split at h
    · rename_i ps' L hg
      cases h
      have hok := fun j (hj : j < ops.size) => (allN_iff.1 hok) j (mem_rng.2 (by simpa using hj))
      have hpre : ∀ j, j < ops.size → ∀ k ∈ predsOf ops.toList j, k < j := fun j hj k hk => blt_iff.1 (allN_iff.1 (andb_iff.1 (hok j hj)).1 k hk)
      have hst := (gopsQ_static { σ with tm := clrT σ.tm ops.toList } hpre hg rfl (fun e he => by cases he) (fun e he => by cases he) (fun k hk => by omega)).2 (fun e he => by cases he)
      obtain ⟨hs, hu, hc, hjl⟩ := hst
      refine wp_region_any hm (drawQ_main hT hF { σ with tm := clrT σ.tm ops.toList } (C := C) hp hs hu hc (fun e he t ht => ?_) hQ ops.size _ E a _ ?_ (cnt_start _ _ (Nat.le_refl _)))
      · obtain ⟨o, _, ho, hdo, _⟩ := (hs e he).op
        have hdt : dstOf ops.toList e.j = some t := by simp only [dstOf, ho]; rw [← hdo]; exact ht
        refine ⟨?_, ?_, fun e' he' ht' => ?_⟩
        · have := (andb_iff.1 (andb_iff.1 (hok e.j (hjl e he))).2).1
          rw [hdt] at this
          have := blt_iff.1 this
          rw [llen_eq] at this
          show t < (clrT σ.tm ops.toList).length
          rw [clrT_len]; exact this
        · exact clrT_bad (List.mem_of_getElem? (oget_iff.1 ho)) (by rw [← hdo]; exact ht)
        · obtain ⟨o', _, ho', hdo', _⟩ := (hs e' he').op
          have hdt' : dstOf ops.toList e'.j = some t := by simp only [dstOf, ho']; rw [← hdo']; exact ht'
          have clash : ∀ i j, i < j → j < ops.size → dstOf ops.toList i = some t → dstOf ops.toList j = some t → False := by
            intro i j hij hj h1 h2
            have := (allN_iff.1 (andb_iff.1 (andb_iff.1 (hok j hj)).2).2) i (mem_rng.2 hij)
            rw [nob_iff] at this
            have h3 := sameD_iff.2 ⟨t, h1, h2⟩
            rw [this] at h3; cases h3
          rcases Nat.lt_trichotomy e'.j e.j with hj | hj | hj
          · exact (clash _ _ hj (hjl e he) hdt' hdt).elim
          · exact hu e' he' e he hj
          · exact (clash _ _ hj (hjl e' he') hdt hdt').elim
      · have hnd : ∀ i, ¬ done (Array.replicate ops.size false) i := by
          intro i hd
          unfold done at hd
          simp only [Array.getD_eq_getD_getElem?, Array.getElem?_replicate] at hd
          split at hd <;> simp at hd
        have hk : EKeep E w E { w with drawn := w.drawn + 1 } [] [] := ⟨fun _ _ _ h => h, fun _ _ => rfl, fun _ _ _ h _ => ⟨h, fun _ _ h => h⟩⟩
        refine ⟨by simp, fun i hi => absurd hi (hnd i), hS.mem.drew _, ?_, ?_, hS.dfr, fun t => ?_, fun e he hd => absurd hd (hnd _)⟩
        · show (clrT σ.tm ops.toList).length = _
          rw [clrT_len, ← hS.tm.length]; simp
        · have := hS.keep.trans hk
          simpa using this
        · show Rel _ _ (lget (clrT σ.tm ops.toList) t) _
          rcases clrT_get (tm := σ.tm) (t := t) (l := ops.toList) with h1 | h1
          · rw [h1]
            have := (hS.tm.get t).keep hk
            rwa [kill_nil] at this
          · rw [h1]; trivial
    · cases h
end drawq

section main
variable {P : Program} {tab : Tab} {fs : FS} {call : ACall} (hT : TabOK P tab) (hFS : FSOK P fs) (hC : CallOK P call)
include hT hFS hC
theorem draw_ok (hm : P.follows .mixedOrders = true) (C : Ctx) : DrawOK P tab fs call C := by
  intro id ops Q σ E w a h hS
  unfold adraw at h
  split at h
  · rename_i ps σ' hd
    have h := needL_iff.1 h
    exact drawQ_ok hT hFS σ (C := C) hm hd h.1 h.2 hS
  · exact draw_ok0 hT hFS hC hm C id ops Q σ E w a h hS
end main

end Go.Proofs.Ytkdemkkepepbdaa.Sx
