/- The framework: regions that draw their order. -/
import Derived.Test.YticnfdlfhakneaaSx7
import Derived.Orders
namespace Go.Proofs.Yticnfdlfhakneaa.Sx
set_option linter.unusedSectionVars false
set_option linter.unusedVariables false
set_option linter.unusedSimpArgs false
open Go.RowKit

theorem andb_iff {a b : Bool} : andb a b = true ↔ a = true ∧ b = true := by cases a <;> simp [andb]
theorem orb_iff {a b : Bool} : orb a b = true ↔ a = true ∨ b = true := by cases a <;> simp [orb]
theorem nob_iff {a : Bool} : nob a = true ↔ a = false := by cases a <;> simp [nob]
theorem memb_iff {n : Nat} {l : List Nat} : memb n l = true ↔ n ∈ l := by
  induction l with
  | nil => simp [memb]
  | cons a l ih =>
    simp only [memb]
    cases h : Nat.beq n a with
    | true => have := beq_true h; subst this; simp
    | false =>
      have h1 : n ≠ a := by intro e; subst e; simp at h
      simp [ih, h1]
theorem memb_not {n : Nat} {l : List Nat} : memb n l = false ↔ n ∉ l := by
  rw [← memb_iff]; simp
theorem allN_iff {l : List Nat} {f : Nat → Bool} : allN l f = true ↔ ∀ i ∈ l, f i = true := by
  induction l with
  | nil => simp [allN]
  | cons a l ih =>
    simp only [allN]
    cases h : f a <;> simp [h, ih]
theorem anyN_iff {l : List Nat} {f : Nat → Bool} : anyN l f = true ↔ ∃ i ∈ l, f i = true := by
  induction l with
  | nil => simp [anyN]
  | cons a l ih =>
    simp only [anyN]
    cases h : f a <;> simp [h, ih]
theorem mem_rng {n i : Nat} : i ∈ rng n ↔ i < n := by
  induction n with
  | zero => simp [rng]
  | succ n ih => simp only [rng, app_eq, List.mem_append, ih, List.mem_singleton]; omega
theorem sameD_iff {a b : Option Nat} : sameD a b = true ↔ ∃ t, a = some t ∧ b = some t := by
  cases a <;> cases b <;> simp [sameD]
  rename_i x y
  exact eq_comm
theorem beqN {a b : Nat} : Nat.beq a b = true ↔ a = b := ⟨beq_true, fun h => by subst h; simp⟩
theorem blt_iff {a b : Nat} : Nat.blt a b = true ↔ a < b := by simp [Nat.blt]; omega
theorem beqN_f {a b : Nat} : Nat.beq a b = false ↔ a ≠ b := by
  rw [← Bool.not_eq_true, beqN]

theorem oget_iff {l : List Oper} {j : Nat} {o : Oper} : oget l j = some o ↔ l[j]? = some o := by
  refine ⟨oget_get, ?_⟩
  induction l generalizing j with
  | nil => simp
  | cons a l ih =>
    cases j with
    | zero => simp [oget]
    | succ j => intro h; simpa [oget] using ih (by simpa using h)

theorem lset_get_self : ∀ {l : List AV} {t : Nat}, lset l t (lget l t) = l
  | [], t => rfl
  | a :: l, 0 => rfl
  | a :: l, t + 1 => by simp [lset, lget, lset_get_self]
theorem lget_lset_ne : ∀ {l : List AV} {t s : Nat} {v : AV}, s ≠ t → lget (lset l t v) s = lget l s
  | [], t, s, v, h => by simp [lset]
  | a :: l, 0, 0, v, h => (h rfl).elim
  | a :: l, 0, s + 1, v, h => rfl
  | a :: l, t + 1, 0, v, h => rfl
  | a :: l, t + 1, s + 1, v, h => by simpa [lset, lget] using lget_lset_ne (l := l) (v := v) (by omega : s ≠ t)
theorem lget_lset_eq : ∀ {l : List AV} {t : Nat} {v : AV}, t < l.length → lget (lset l t v) t = v
  | [], t, v, h => by simp at h
  | a :: l, 0, v, h => rfl
  | a :: l, t + 1, v, h => by simpa [lset, lget] using lget_lset_eq (l := l) (v := v) (by simpa using h)
theorem lget_out : ∀ {l : List AV} {t : Nat}, l.length ≤ t → lget l t = .bad
  | [], t, h => by cases t <;> rfl
  | a :: l, 0, h => by simp at h
  | a :: l, t + 1, h => by simpa [lget] using lget_out (l := l) (by simpa using h)
theorem putT_len (l : List AV) (d : Option Tmp) (a : AV) : (putT l d a).length = l.length := by cases d <;> simp [putT, lset_len]
theorem killL_len {k1 k2 : List Nat} : ∀ l : List AV, (killL k1 k2 l).length = l.length
  | [] => rfl
  | a :: l => by simp [killL, killL_len l]
theorem killL_get {k1 k2 : List Nat} : ∀ {l : List AV} {t : Nat}, lget (killL k1 k2 l) t = kill k1 k2 (lget l t)
  | [], t => by cases t <;> simp [killL, lget, kill]
  | a :: l, 0 => by simp [killL, lget]
  | a :: l, t + 1 => by simpa [killL, lget] using killL_get (l := l)
theorem killF_get {k1 k2 : List Nat} {l : List AV} {t : Nat} : lget (killF k1 k2 l) t = kill k1 k2 (lget l t) := by
  unfold killF
  split
  · rw [kill_nil]
  · exact killL_get
theorem killF_len {k1 k2 : List Nat} (l : List AV) : (killF k1 k2 l).length = l.length := by
  unfold killF; split
  · rfl
  · exact killL_len l

/-! ### what an operation reads alone decides it -/

def agree (l : List Operand) (ρ ρ' : Opd) : Prop := ∀ x ∈ l, ρ x = ρ' x

theorem evs_congr {ρ ρ' : Opd} : ∀ {l : List Operand}, agree l ρ ρ' → evs ρ l = evs ρ' l
  | [], _ => rfl
  | a :: l, h => by simp [evs, h a (by simp), evs_congr (l := l) (fun x hx => h x (by simp [hx]))]
theorem evp_congr {ρ ρ' : Opd} : ∀ {l : List (Nat × Operand)}, agree (l.map (·.2)) ρ ρ' → evp ρ l = evp ρ' l
  | [], _ => rfl
  | (i, a) :: l, h => by simp [evp, h a (by simp), evp_congr (l := l) (fun x hx => h x (by simp [List.mem_cons]; right; simpa using hx))]

theorem qval_congr {tab : Tab} {o : Oper} {ρ ρ' : Opd} {m : List Blk} (h : agree o.op.operands.toList ρ ρ') : qval tab o ρ m = qval tab o ρ' m := by
  unfold qval
  cases hop : o.op <;> rw [hop] at h <;> simp only [Op.operands] at h ⊢
  case build t ps => rw [evp_congr (l := ps.toList) (by simpa [agree] using h)]
  case makeFunc f a b =>
    rw [evs_congr (l := a.toList) (fun x hx => h x (by simp at hx ⊢; exact .inl hx)), evs_congr (l := b.toList) (fun x hx => h x (by simp at hx ⊢; exact .inr hx))]
  case call c =>
    cases hcal : c.callee <;> simp only []
    rw [evs_congr (l := c.args.toList) (fun x hx => h x (by simp [Call.operands, hcal] at hx ⊢; exact hx))]
  all_goals first
    | rfl
    | (rw [h _ (by simp), h _ (by simp), h _ (by simp)]; done)
    | (rw [h _ (by simp)]; done)
    | (simp only [agree, List.mem_cons, List.not_mem_nil, or_false, forall_eq_or_imp, forall_eq] at h; simp only [h]; done)
    | (simp only [agree, List.mem_cons, List.not_mem_nil, or_false, forall_eq_or_imp, forall_eq] at h; simp only [h.1, h.2]; done)
    | (simp only [agree, List.mem_cons, List.not_mem_nil, or_false, forall_eq_or_imp, forall_eq] at h; simp only [h.1, h.2.1, h.2.2]; done)

theorem qop_congr {tab : Tab} {o : Oper} {ρ ρ' : Opd} {m : List Blk} {K : AV → Prop} (h : agree o.op.operands.toList ρ ρ') : qop tab o ρ m K = qop tab o ρ' m K := by
  unfold qop
  rw [qval_congr h]
  split
  · rfl
  · cases hop : o.op <;> rw [hop] at h <;> simp only [Op.operands] at h ⊢
    simp only [agree, List.mem_cons, List.not_mem_nil, or_false, forall_eq_or_imp, forall_eq] at h
    rw [h.1, h.2.1, h.2.2]

theorem lop_congr {tab : Tab} {call : ACall} {o : Oper} {ρ ρ' : Opd} {m : List Blk} {K : AK} (h : agree o.op.operands.toList ρ ρ') : lop tab call o ρ m K = lop tab call o ρ' m K := by
  unfold lop
  cases hop : o.op <;> rw [hop] at h <;> simp only [Op.operands] at h ⊢
  case buildSlice t len ps => rw [evp_congr (l := ps.toList) (by simpa [agree] using h)]
  case call c =>
    cases hcal : c.callee <;> simp only []
    · rw [evs_congr (l := c.args.toList) (fun x hx => h x (by simp [Call.operands, hcal] at hx ⊢; exact .inr hx)), h _ (by simp [Call.operands, hcal])]
    · rw [evs_congr (l := c.args.toList) (fun x hx => h x (by simp [Call.operands, hcal] at hx ⊢; exact hx))]
  all_goals first
    | rfl
    | (rw [h _ (by simp)]; done)
    | (simp only [agree, List.mem_cons, List.not_mem_nil, or_false, forall_eq_or_imp, forall_eq] at h; simp only [h.1, h.2]; done)

theorem callV_congr {fs : FS} {o : Oper} {ρ ρ' : Opd} {m : List Blk} (h : agree o.op.operands.toList ρ ρ') : callV fs o ρ m = callV fs o ρ' m := by
  unfold callV
  cases hop : o.op <;> rw [hop] at h <;> simp only [Op.operands] at h ⊢
  rename_i c
  cases hcal : c.callee <;> simp only []
  rw [evs_congr (l := c.args.toList) (fun x hx => h x (by simp [Call.operands, hcal] at hx ⊢; exact .inr hx)), h _ (by simp [Call.operands, hcal])]
theorem xop_congr {tab : Tab} {call : ACall} {o : Oper} {ρ ρ' : Opd} {m : List Blk} {K : AK} (h : agree o.op.operands.toList ρ ρ') : xop tab call o ρ m K = xop tab call o ρ' m K := by
  unfold xop; rw [qop_congr h, lop_congr h]
theorem xopF_congr {tab : Tab} {fs : FS} {call : ACall} {o : Oper} {ρ ρ' : Opd} {m : List Blk} {K : AK} (h : agree o.op.operands.toList ρ ρ') : xopF tab fs call o ρ m K = xopF tab fs call o ρ' m K := by
  unfold xopF; rw [xop_congr h, callV_congr h]


/-! ### an operation that is quiet comes to some value -/

theorem qop_feas {tab : Tab} {o : Oper} {ρ : Opd} {m : List Blk} {K : AV → Prop} (h : qop tab o ρ m K) : ∃ v, K v := by
  unfold qop at h
  split at h
  · exact ⟨_, (needL_iff.1 h).2⟩
  · split at h
    · split at h
      · rename_i cb _
        cases cb <;> exact ⟨_, h⟩
      · exact h.elim
    · exact h.elim

theorem set_lit {σ : St} {t : Nat} {c : Bool} (h : lget σ.tm t = .bool c) : ({ σ with tm := lset σ.tm t (.bool c) } : St) = σ := by rw [← h, lset_get_self]

theorem guarded_cases {ops : List Oper} {o : Oper} {σ : St} {yes no : St → Prop} (h : guarded ops o σ yes no) : yes σ ∨ no σ := by
  unfold guarded at h
  split at h
  · exact .inl h
  · split at h
    · split at h
      · split at h
        · rename_i b hb
          split at h <;> cases b <;> simp only [ifB] at h <;> rw [set_lit hb] at h <;> first | exact .inl h | exact .inr h
        · exact .inr h
        · exact h.elim
      · exact h.elim
    · exact h.elim

/-- What running the quiet ones early comes to. -/
theorem runQ_ex {tab : Tab} {ops : List Oper} : ∀ {l : List Nat} {σ : St} {K : St → Prop}, runQ tab ops l σ K →
    ∃ σ', K σ' ∧ σ'.mem = σ.mem ∧ σ'.k1 = σ.k1 ∧ σ'.k2 = σ.k2 ∧ σ'.tm.length = σ.tm.length ∧ ∀ t, (∀ j ∈ l, dstOf ops j ≠ some t) → lget σ'.tm t = lget σ.tm t
  | [], σ, K, h => ⟨σ, h, rfl, rfl, rfl, rfl, fun _ _ => rfl⟩
  | i :: l, σ, K, h => by
    simp only [runQ] at h
    split at h
    · rename_i o ho
      have step : ∀ v, runQ tab ops l { σ with tm := putT σ.tm o.dst v } K → ∃ σ', K σ' ∧ σ'.mem = σ.mem ∧ σ'.k1 = σ.k1 ∧ σ'.k2 = σ.k2 ∧ σ'.tm.length = σ.tm.length ∧
          ∀ t, (∀ j ∈ i :: l, dstOf ops j ≠ some t) → lget σ'.tm t = lget σ.tm t := by
        intro v hv
        obtain ⟨σ', h1, h2, h3, h4, h5, h6⟩ := runQ_ex hv
        refine ⟨σ', h1, h2, h3, h4, h5.trans (putT_len _ _ _), fun t ht => ?_⟩
        rw [h6 t (fun j hj => ht j (by simp [hj]))]
        have hd := ht i (by simp)
        simp only [dstOf, ho] at hd
        cases hod : o.dst with
        | none => rfl
        | some d =>
          rw [hod] at hd
          exact lget_lset_ne (fun e => hd (by rw [e]))
      rcases guarded_cases h with h | h
      · obtain ⟨v, h⟩ := qop_feas h
        exact step v h
      · exact step .und h
    · exact h.elim

mutual
theorem sameK_eq : ∀ {x y : AV} {K : Prop}, sameK x y K → x = y ∧ K := by
  intro x y K h
  match x, y with
  | .agg l, .agg l' => simp only [sameK] at h; have := sameL_eq h; exact ⟨by rw [this.1], this.2⟩
  | .tup l, .tup l' => simp only [sameK] at h; have := sameL_eq h; exact ⟨by rw [this.1], this.2⟩
  | x, y =>
    unfold sameK at h
    split at h
    · split at h
      · rename_i h1 h2; rw [beq_true h1, beq_true h2]; exact ⟨rfl, h⟩
      · exact h.elim
    · split at h
      · rename_i hk; rw [hk, h.1]; exact ⟨rfl, h.2⟩
      · exact h.elim
    · rw [h.1]; exact ⟨rfl, h.2⟩
    · rw [h.1]; exact ⟨rfl, h.2⟩
    · have := sameL_eq h; exact ⟨by rw [this.1], this.2⟩
    · have := sameL_eq h; exact ⟨by rw [this.1], this.2⟩
    · exact ⟨rfl, h⟩
    · split at h
      · rename_i h1; rw [beq_true h1]; exact ⟨rfl, h⟩
      · exact h.elim
    · exact ⟨rfl, h⟩
    · exact ⟨rfl, h⟩
    · exact h
theorem sameL_eq : ∀ {l l' : List AV} {K : Prop}, sameL l l' K → l = l' ∧ K
  | [], [], _, h => ⟨rfl, h⟩
  | a :: l, b :: l', K, h => by
    simp only [sameL] at h
    have h1 := sameK_eq h
    have h2 := sameL_eq h1.2
    rw [h1.1, h2.1]
    exact ⟨rfl, h2.2⟩
  | [], _ :: _, _, h => h.elim
  | _ :: _, [], _, h => h.elim
end
theorem badK_eq {x : AV} {K : Prop} (h : badK x K) : x = .und ∧ K := by
  unfold badK at h
  split at h
  · exact ⟨rfl, h⟩
  · exact h.elim

theorem valid_k {tab : Tab} {ops : List Oper} {σ : St} {i : Nat} {K : Prop} (h : valid tab ops σ i K) : K := by
  unfold valid at h
  split at h
  · rcases guarded_cases h with h | h
    · obtain ⟨v, h⟩ := qop_feas h
      exact (sameK_eq h).2
    · exact (badK_eq h).2
  · exact h.elim
theorem checks_valid {tab : Tab} {ops : List Oper} {σ : St} : ∀ {l : List Nat} {K : Prop}, checks tab ops l σ K → ∀ i ∈ l, ∃ K, valid tab ops σ i K
  | [], _, _, i, hi => by cases hi
  | a :: l, K, h, i, hi => by
    cases hi with
    | head => exact ⟨_, h⟩
    | tail _ hi => exact checks_valid (valid_k (i := a) h) i hi
theorem checks_k {tab : Tab} {ops : List Oper} {σ : St} : ∀ {l : List Nat} {K : Prop}, checks tab ops l σ K → K
  | [], _, h => h
  | a :: l, K, h => checks_k (l := l) (valid_k (i := a) h)

/-! ### the invariant -/

/-- An operation, its guard and its operands, where what it reads is known. -/
theorem guarded_at {ops : Array Oper} {o : Oper} {σ : St} {yes no : St → Prop} {E : Env} {w : World} {a : Act}
    (hg : ∀ j want t, o.guard = some (j, want) → dstOf ops.toList j = some t → Rel E w (lget σ.tm t) (a.tmps.toList.getD t undef))
    (h : guarded ops.toList o σ yes no) : (Region.wanted o (yielded ops a.tmps) = true ∧ yes σ) ∨ (Region.wanted o (yielded ops a.tmps) = false ∧ no σ) := by
  unfold guarded at h
  split at h
  · rename_i hgd
    exact .inl ⟨by simp [Region.wanted, hgd], h⟩
  · rename_i j want hgd
    split at h
    · rename_i oj hj
      split at h
      · rename_i t ht
        split at h
        · rename_i b hb
          have hy : yielded ops a.tmps j = some b := by
            have h1 : ops[j]? = some oj := by simpa using oget_get hj
            have h2 := hg j want t hgd (by simp [dstOf, hj, ht])
            rw [hb] at h2
            simp only [Rel] at h2
            have h3 : a.tmps[t]? = some (.bool b) := by
              by_cases hlt : t < a.tmps.size
              · have : a.tmps.toList.getD t undef = a.tmps[t] := by simp [List.getD, List.getElem?_eq_getElem, hlt]
                rw [this] at h2
                rw [Array.getElem?_eq_getElem hlt, h2]
              · have : a.tmps.toList.getD t undef = undef := by simp [List.getD, hlt]
                rw [this] at h2
                simp [undef] at h2
            simp [yielded, h1, ht, h3]
          split at h <;> cases b <;> simp only [ifB] at h <;> rw [set_lit hb] at h
          · exact .inr ⟨by simp [Region.wanted, hgd, hy], h⟩
          · exact .inl ⟨by simp [Region.wanted, hgd, hy], h⟩
          · exact .inl ⟨by simp [Region.wanted, hgd, hy], h⟩
          · exact .inr ⟨by simp [Region.wanted, hgd, hy], h⟩
        · rename_i hb
          have hy : yielded ops a.tmps j = none := by
            have h1 : ops[j]? = some oj := by simpa using oget_get hj
            have h2 := hg j want t hgd (by simp [dstOf, hj, ht])
            rw [hb] at h2
            simp only [Rel] at h2
            exact yielded_und h1 ht h2
          exact .inr ⟨by simp [Region.wanted, hgd, hy], h⟩
        · exact h.elim
      · exact h.elim
    · exact h.elim

theorem mem_tmpOf {t : Nat} : ∀ {l : List Operand}, t ∈ tmpOf l ↔ Operand.tmp t ∈ l
  | [] => by simp [tmpOf]
  | .tmp u :: l => by simp [tmpOf, mem_tmpOf (l := l)]
  | .const v :: l => by simp [tmpOf, mem_tmpOf (l := l)]
  | .global g :: l => by simp [tmpOf, mem_tmpOf (l := l)]
  | .func f :: l => by simp [tmpOf, mem_tmpOf (l := l)]

theorem mem_edgesOf {j : Nat} : ∀ {l : List Edge}, j ∈ edgesOf l ↔ ∃ e ∈ l, Region.binds .any e = true ∧ e.on = j
  | [] => by simp [edgesOf]
  | e :: l => by
    have hb : bindsG e.ground = Region.binds .any e := by
      cases hg : e.ground <;> simp [bindsG, Region.binds, hg]
    have ih := mem_edgesOf (j := j) (l := l)
    simp only [edgesOf]
    rw [hb]
    constructor
    · intro h
      cases hx : Region.binds .any e with
      | true =>
        rw [hx] at h
        rcases List.mem_cons.1 h with rfl | h
        · exact ⟨e, by simp, hx, rfl⟩
        · obtain ⟨f, h1, h2⟩ := ih.1 h; exact ⟨f, by simp [h1], h2⟩
      | false =>
        rw [hx] at h
        obtain ⟨f, h1, h2⟩ := ih.1 h; exact ⟨f, by simp [h1], h2⟩
    · rintro ⟨f, hf, h1, h2⟩
      rcases List.mem_cons.1 hf with rfl | hf
      · rw [h1, h2]; simp
      · have := ih.2 ⟨f, hf, h1, h2⟩
        cases Region.binds .any e <;> simp [this]

section inv
variable (tab : Tab) (fs : FS) (call : ACall) (C : Ctx) (ops : Array Oper)

/-- 'Is it done?' -/
def done (listed : Array Bool) (i : Nat) : Prop := listed.getD i false = true

structure Inv (Q : AExit → St → Prop) (listed : Array Bool) (P rc : List Nat) (l : PT) (σ : St) (E : Env) (a : Act) (w : World) : Prop where
  size : listed.size = ops.size
  plan : planGo ops.toList ops.size P rc l = true
  vals : ∀ i ∈ rc, ∃ K, valid tab ops.toList σ i K
  rest : stagesK tab fs call ops.toList l σ (Q .normal)
  sub : ∀ i, done listed i → i ∈ P
  bars : ∀ i ∈ P, isQ ops.toList i = false → done listed i
  closed : ∀ i, done listed i → ∀ j ∈ predsOf ops.toList i, done listed j
  lt : ∀ i ∈ P, i < ops.size
  mem : SatM C.B E σ.mem w
  len : σ.tm.length = a.tmps.size
  slots : ∀ t, (∀ j ∈ P, ¬ done listed j → dstOf ops.toList j ≠ some t) → Rel E w (lget σ.tm t) (a.tmps.toList.getD t undef)
  dfr : a.defers = []
  keep : EKeep C.E0 C.w0 E w σ.k1 σ.k2
end inv

theorem done_set {listed : Array Bool} {i j : Nat} (hi : i < listed.size) : done (listed.setIfInBounds i true) j ↔ j = i ∨ done listed j := by
  unfold done
  by_cases h : j = i
  · subst h; simp [Array.getD_eq_getD_getElem?, hi]
  · have h' : i ≠ j := fun e => h e.symm
    simp [Array.getD_eq_getD_getElem?, h, h', Array.getElem?_setIfInBounds]


/-- How many are still to come. -/
def cnt (listed : Array Bool) : Nat → Nat
  | 0 => 0
  | n + 1 => cnt listed n + if listed.getD n false then 0 else 1

theorem cnt_set_out {listed : Array Bool} {i : Nat} (hs : i < listed.size) : ∀ n, n ≤ i → cnt (listed.setIfInBounds i true) n = cnt listed n
  | 0, _ => rfl
  | n + 1, h => by
    have hne : i ≠ n := by omega
    simp only [cnt]
    rw [cnt_set_out hs n (by omega)]
    congr 1
    simp [Array.getD_eq_getD_getElem?, Array.getElem?_setIfInBounds, hne]
theorem cnt_set {listed : Array Bool} {i : Nat} (hs : i < listed.size) (hd : ¬ done listed i) : ∀ n, i < n → cnt (listed.setIfInBounds i true) n + 1 = cnt listed n
  | 0, h => by omega
  | n + 1, h => by
    simp only [cnt]
    by_cases he : i = n
    · subst he
      rw [cnt_set_out hs i (Nat.le_refl _)]
      have h1 : (listed.setIfInBounds i true).getD i false = true := (done_set hs).2 (.inl rfl)
      have h2 : listed.getD i false = false := by simpa [done] using hd
      rw [h1, h2]; simp
    · have ih := cnt_set hs hd n (by omega)
      have h1 : (listed.setIfInBounds i true).getD n false = listed.getD n false := by
        simp [Array.getD_eq_getD_getElem?, Array.getElem?_setIfInBounds, he]
      rw [h1]; omega
theorem cnt_zero {listed : Array Bool} : ∀ {n}, cnt listed n = 0 → ∀ i, i < n → done listed i
  | 0, _, i, h => by omega
  | n + 1, h, i, hi => by
    simp only [cnt] at h
    by_cases he : i = n
    · subst he
      unfold done
      cases hx : listed.getD i false with
      | true => rfl
      | false => rw [hx] at h; simp at h
    · exact cnt_zero (n := n) (by omega) i (by omega)
theorem cnt_start : ∀ (n m : Nat), n ≤ m → cnt (Array.replicate m false) n = n
  | 0, m, _ => rfl
  | n + 1, m, h => by
    simp only [cnt, cnt_start n m (by omega)]
    simp only [Array.getD_eq_getD_getElem?, Array.getElem?_replicate]
    split <;> simp

theorem relL_of_get {E : Env} {w : World} : ∀ {l : List AV} {vs : List Value}, l.length = vs.length → (∀ t, Rel E w (lget l t) (vs.getD t undef)) → RelL E w l vs
  | [], vs, h, _ => by simp only [RelL]; exact List.eq_nil_of_length_eq_zero h.symm
  | a :: l, [], h, _ => by simp at h
  | a :: l, v :: vs, h, hr => ⟨v, vs, rfl, by simpa [lget] using hr 0, relL_of_get (by simpa using h) fun t => by simpa [lget] using hr (t + 1)⟩

section main
variable {P : Program} {tab : Tab} {fs : FS} {call : ACall} (hT : TabOK P tab) (hFS : FSOK P fs) (hC : CallOK P call) {C : Ctx} {ops : Array Oper} {Q : AExit → St → Prop}

theorem getD_put {a : Act} {d : Option Tmp} {v : Value} {t : Nat} : (a.put d v).tmps.toList.getD t undef = if d = some t ∧ t < a.tmps.size then v else a.tmps.toList.getD t undef := by
  cases d with
  | none => simp [Act.put]
  | some d =>
    simp only [Act.put, Array.toList_setIfInBounds, List.getD, List.getElem?_set, Option.some.injEq, Array.length_toList]
    by_cases h : d = t
    · subst h
      by_cases h2 : d < a.tmps.size <;> simp [h2]
    · simp [h]

theorem put_size (a : Act) (d : Option Tmp) (v : Value) : (a.put d v).tmps.size = a.tmps.size := by cases d <;> simp [Act.put]

/-- A quiet operation that waits, done. -/
theorem Inv.wait {listed : Array Bool} {Pr rc : List Nat} {l : PT} {σ : St} {E : Env} {a : Act} {w : World} (I : Inv tab fs call C ops Q listed Pr rc l σ E a w)
    {i : Nat} {o : Oper} (ho : oget ops.toList i = some o) (hi : i ∈ Pr) (hp : ∀ j ∈ predsOf ops.toList i, done listed j) {v : Value} (hv : Rel E w (dstV σ.tm o.dst) v) :
    Inv tab fs call C ops Q (listed.setIfInBounds i true) Pr rc l σ E (a.put o.dst v) w := by
  have hs : i < listed.size := by rw [I.size]; exact I.lt i hi
  refine ⟨by simpa using I.size, I.plan, I.vals, I.rest, fun j hj => ?_, fun j hj hq => (done_set hs).2 (.inr (I.bars j hj hq)), fun j hj k hk => (done_set hs).2 (.inr ?_), I.lt, I.mem,
    by rw [put_size]; exact I.len, fun t ht => ?_, by rw [put_defers]; exact I.dfr, I.keep⟩
  · rcases (done_set hs).1 hj with rfl | h
    · exact hi
    · exact I.sub j h
  · rcases (done_set hs).1 hj with rfl | h
    · exact hp k hk
    · exact I.closed j h k hk
  · rw [getD_put]
    by_cases hd : o.dst = some t ∧ t < a.tmps.size
    · rw [if_pos hd]
      rw [hd.1] at hv
      exact hv
    · rw [if_neg hd]
      by_cases hd' : o.dst = some t
      · have hlt : ¬ t < a.tmps.size := fun h => hd ⟨hd', h⟩
        rw [lget_out (by rw [I.len]; omega)]
        trivial
      · refine I.slots t fun j hj hn => ?_
        by_cases hji : j = i
        · subst hji; simp only [dstOf, ho]; exact hd'
        · exact ht j hj (fun h => (done_set hs).1 h |>.elim hji hn)

/-- One of those that may come next. -/
def Alt (s : Stage) (sub : PT) : PT → Prop
  | .nil => False
  | .cons s' sub' rest => (s' = s ∧ sub' = sub) ∨ Alt s sub rest
theorem alt_of_head {i : Nat} : ∀ {t : PT}, i ∈ heads t → ∃ s sub, Alt s sub t ∧ s.bar = i
  | .nil, h => by simp [heads] at h
  | .cons s sub rest, h => by
    simp only [heads, List.mem_cons] at h
    rcases h with rfl | h
    · exact ⟨s, sub, .inl ⟨rfl, rfl⟩, rfl⟩
    · obtain ⟨s', sub', h1, h2⟩ := alt_of_head h
      exact ⟨s', sub', .inr h1, h2⟩
theorem alt_plan {ops : List Oper} {n : Nat} {P : List Nat} {s : Stage} {sub : PT} : ∀ {t : PT}, Alt s sub t → planA ops n P t = true →
    (isQ ops s.bar = false ∧ s.bar ∉ P ∧ s.bar < n ∧ ∀ i ∈ s.run, isQ ops i = true ∧ i ∉ P ∧ i ≠ s.bar) ∧ planGo ops n (app P (s.bar :: s.run)) s.rc sub = true
  | .nil, h, _ => h.elim
  | .cons s' sub' rest, h, hp => by
    simp only [planA, andb_iff] at hp
    rcases h with ⟨rfl, rfl⟩ | h
    · obtain ⟨h1, h2, h3⟩ := hp
      simp only [nob_iff, allN_iff, blt_iff, memb_not, andb_iff, beqN_f] at h1
      exact ⟨h1, by unfold planGo; simp only [andb_iff]; exact h2⟩
    · exact alt_plan h hp.2.2
theorem alt_stage {tab : Tab} {fs : FS} {call : ACall} {ops : List Oper} {s : Stage} {sub : PT} {σ : St} {K : St → Prop} : ∀ {t : PT}, Alt s sub t → stages tab fs call ops t σ K → stage1 tab fs call ops s σ fun σ => stagesK tab fs call ops sub σ K
  | .nil, h, _ => h.elim
  | .cons s' sub' .nil, h, hs => by
    rcases h with ⟨rfl, rfl⟩ | h
    · simp only [stages, forceS_eq] at hs
      cases sub' <;> exact hs
    · exact h.elim
  | .cons s' sub' (.cons a b c), h, hs => by
    simp only [stages, forceS_eq] at hs
    rcases h with ⟨rfl, rfl⟩ | h
    · have := hs.1
      cases sub' <;> exact this
    · exact alt_stage h hs.2

/-- The next one of those that come in turn, done. -/
theorem Inv.turn {listed : Array Bool} {Pr rc : List Nat} {s : Stage} {l t : PT} {σ : St} {E : Env} {a : Act} {w : World} (I : Inv tab fs call C ops Q listed Pr rc t σ E a w) (hal : Alt s l t)
    {o : Oper} (ho : oget ops.toList s.bar = some o) (hp : ∀ j ∈ predsOf ops.toList s.bar, done listed j)
    {E' : Env} {w' : World} {tmA : List AV} {av : AV} {v : Value} {m' : List Blk} {k1 k2 : List Nat} {σ' : St}
    (hlen : tmA.length = σ.tm.length) (hA : ∀ t, Rel E w (lget σ.tm t) (a.tmps.toList.getD t undef) → Rel E' w' (lget tmA t) (a.tmps.toList.getD t undef))
    (hv : Rel E' w' av v) (hm : SatM C.B E' m' w') (hk : EKeep C.E0 C.w0 E' w' k1 k2)
    (hσ1 : σ'.mem = m') (hσ2 : σ'.k1 = k1) (hσ3 : σ'.k2 = k2) (hσ4 : σ'.tm.length = (putT tmA o.dst av).length)
    (hσ5 : ∀ t, (∀ j ∈ s.run, dstOf ops.toList j ≠ some t) → lget σ'.tm t = lget (putT tmA o.dst av) t)
    {K : Prop} (hch : checks tab ops.toList s.rc σ' K) (hst : stagesK tab fs call ops.toList l σ' (Q .normal)) :
    Inv tab fs call C ops Q (listed.setIfInBounds s.bar true) (app Pr (s.bar :: s.run)) s.rc l σ' E' (a.put o.dst v) w' := by
  have hplan := I.plan
  unfold planGo at hplan
  rw [andb_iff, andb_iff] at hplan
  obtain ⟨⟨hnq, hnp, hlt, hrun⟩, hnext⟩ := alt_plan hal hplan.2.2
  have hs : s.bar < listed.size := by rw [I.size]; exact hlt
  have hnd : ∀ j ∈ s.run, ¬ done (listed.setIfInBounds s.bar true) j := fun j hj h => by
    rcases (done_set hs).1 h with h | h
    · exact (hrun j hj).2.2 h
    · exact (hrun j hj).2.1 (I.sub j h)
  refine ⟨by simpa using I.size, hnext, checks_valid hch, hst, fun j hj => ?_, fun j hj hq => ?_, fun j hj k hk => (done_set hs).2 (.inr ?_), fun j hj => ?_, by rw [hσ1]; exact hm,
    by rw [put_size, hσ4, putT_len, hlen]; exact I.len, fun t ht => ?_, by rw [put_defers]; exact I.dfr, by rw [hσ2, hσ3]; exact hk⟩
  · rw [app_eq]
    rcases (done_set hs).1 hj with rfl | h
    · simp
    · simp [I.sub j h]
  · rw [app_eq] at hj
    rcases List.mem_append.1 hj with hj | hj
    · exact (done_set hs).2 (.inr (I.bars j hj hq))
    · rcases List.mem_cons.1 hj with rfl | hj
      · exact (done_set hs).2 (.inl rfl)
      · have := (hrun j hj).1; rw [this] at hq; cases hq
  · rcases (done_set hs).1 hj with rfl | h
    · exact hp k hk
    · exact I.closed j h k hk
  · rw [app_eq] at hj
    rcases List.mem_append.1 hj with hj | hj
    · exact I.lt j hj
    · rcases List.mem_cons.1 hj with rfl | hj
      · exact hlt
      · have hq := (hrun j hj).1
        unfold isQ at hq
        cases hg : oget ops.toList j with
        | none => rw [hg] at hq; cases hq
        | some oj =>
          have := oget_iff.1 hg
          have := (List.getElem?_eq_some_iff.1 this).1
          simpa using this
  · rw [hσ5 t (fun j hj => ht j (by rw [app_eq]; simp [hj]) (hnd j hj)), getD_put]
    by_cases hd : o.dst = some t ∧ t < a.tmps.size
    · rw [if_pos hd]
      have : lget (putT tmA o.dst av) t = av := by
        rw [hd.1]
        exact lget_lset_eq (by rw [hlen, I.len]; exact hd.2)
      rw [this]; exact hv
    · rw [if_neg hd]
      by_cases hd' : o.dst = some t
      · have hlt : ¬ t < a.tmps.size := fun h => hd ⟨hd', h⟩
        rw [lget_out (by rw [putT_len, hlen, I.len]; omega)]
        trivial
      · have : lget (putT tmA o.dst av) t = lget tmA t := by
          cases hod : o.dst with
          | none => rfl
          | some d =>
            rw [hod] at hd'
            exact lget_lset_ne (fun e => hd' (by rw [e]))
        rw [this]
        refine hA t (I.slots t fun j hj hn => ht j (by rw [app_eq]; simp [hj]) fun h => ?_)
        rcases (done_set hs).1 h with rfl | h
        · exact hnp hj
        · exact hn h

include hT hFS hC

theorem draw_main (hssa : ssaOK ops.toList ops.size = true) : ∀ (fuel : Nat) (listed : Array Bool) (Pr rc : List Nat) (l : PT) (σ : St) (E : Env) (a : Act) (w : World),
    Inv tab fs call C ops Q listed Pr rc l σ E a w → cnt listed ops.size = fuel → wpAny P .any ops (PQ C Q) fuel listed a w := by
  have hssa' : ∀ j, j < ops.size → (∀ k ∈ predsOf ops.toList j, k < j) ∧ (isQ ops.toList j = true → rdD ops.toList j (dstOf ops.toList j) = false ∧
      ∀ i, i < ops.size → i = j ∨ (sameD (dstOf ops.toList i) (dstOf ops.toList j) = false ∧ (rdD ops.toList i (dstOf ops.toList j) = false ∨ j ∈ predsOf ops.toList i))) := by
    intro j hj
    have h := (allN_iff.1 hssa) j (mem_rng.2 hj)
    rw [andb_iff] at h
    refine ⟨fun k hk => blt_iff.1 (allN_iff.1 h.1 k hk), fun hq => ?_⟩
    have h2 := h.2
    rw [hq] at h2
    simp only [andb_iff, nob_iff, allN_iff, orb_iff, beqN, memb_iff, mem_rng] at h2
    exact ⟨h2.2.1, h2.2.2⟩
  have hfin : ∀ listed Pr rc l σ E a w, Inv tab fs call C ops Q listed Pr rc l σ E a w → (∀ i, i < ops.size → done listed i) → PQ C Q .normal a w := by
    intro listed Pr rc l σ E a w I hall
    have hl : l = .nil := by
      cases l with
      | nil => rfl
      | cons s l r =>
        have hplan := I.plan
        unfold planGo at hplan
        rw [andb_iff, andb_iff] at hplan
        obtain ⟨⟨_, hnp, hlt, _⟩, _⟩ := alt_plan (show Alt s l (.cons s l r) from Or.inl ⟨rfl, rfl⟩) hplan.2.2
        exact absurd (I.sub _ (hall _ hlt)) hnp
    subst hl
    refine ⟨.normal, σ, E, I.rest, ⟨I.mem, relL_of_get (by simpa using I.len) fun t => I.slots t fun j hj hn => absurd (hall j (I.lt j hj)) hn, I.dfr, I.keep⟩, rfl⟩
  have hready : ∀ listed Pr rc l σ E a w, Inv tab fs call C ops Q listed Pr rc l σ E a w → ∀ j, j ∈ Region.ready .any ops listed ↔ (j < ops.size ∧ ¬ done listed j ∧ ∀ k ∈ predsOf ops.toList j, done listed k) := by
    intro listed Pr rc l σ E a w I j
    rw [mem_ready]
    constructor
    · rintro ⟨h1, o, ho, h2⟩
      have hj : j < ops.size := (Array.getElem?_eq_some_iff.1 ho).1
      refine ⟨hj, ?_, fun k hk => ?_⟩
      · unfold done
        have hjs : j < listed.size := by rw [I.size]; exact hj
        simp [Array.getD_eq_getD_getElem?, hjs] at h1 ⊢
        exact h1
      · have hg : oget ops.toList j = some o := oget_iff.2 (by simpa using ho)
        simp only [predsOf, hg] at hk
        obtain ⟨e, he, hb, rfl⟩ := mem_edgesOf.1 hk
        exact h2 e (by simpa using he) hb
    · rintro ⟨hj, h1, h2⟩
      refine ⟨?_, ops[j], by simp [hj], fun e he hb => ?_⟩
      · unfold done at h1
        have hjs : j < listed.size := by rw [I.size]; exact hj
        simp [Array.getD_eq_getD_getElem?, hjs] at h1 ⊢
        exact h1
      · have hg : oget ops.toList j = some ops[j] := oget_iff.2 (by simp [hj])
        exact h2 e.on (by simp only [predsOf, hg]; exact mem_edgesOf.2 ⟨e, by simpa using he, hb, rfl⟩)
  have hdone : ∀ listed Pr rc l σ E a w, Inv tab fs call C ops Q listed Pr rc l σ E a w → Region.ready .any ops listed = [] → ∀ i, i < ops.size → done listed i := by
    intro listed Pr rc l σ E a w I hr i
    induction i using Nat.strongRecOn with
    | _ i ih =>
      intro hi
      by_cases hd : done listed i
      · exact hd
      · have := (hready listed Pr rc l σ E a w I i).2 ⟨hi, hd, fun k hk => ih k ((hssa' i hi).1 k hk) (Nat.lt_trans ((hssa' i hi).1 k hk) hi)⟩
        rw [hr] at this; cases this
  intro fuel
  induction fuel with
  | zero =>
    intro listed Pr rc l σ E a w I hc
    have hall := cnt_zero hc
    refine ⟨?_, hfin _ _ _ _ _ _ _ _ I hall⟩
    apply List.eq_nil_iff_forall_not_mem.2
    intro j hj
    have := (hready _ _ _ _ _ _ _ _ I j).1 hj
    exact this.2.1 (hall j this.1)
  | succ fuel ih =>
    intro listed Pr rc l σ E a w I hc
    refine ⟨fun h0 => hfin _ _ _ _ _ _ _ _ I (hdone _ _ _ _ _ _ _ _ I h0), fun i hi => ?_⟩
    obtain ⟨hin, hnd, hpre⟩ := (hready _ _ _ _ _ _ _ _ I i).1 hi
    have hs : i < listed.size := by rw [I.size]; exact hin
    have hcnt : cnt (listed.setIfInBounds i true) ops.size = fuel := by have := cnt_set hs hnd ops.size hin; omega
    have hoA : ops[i]? = some ops[i] := by simp [hin]
    generalize hoE : ops[i] = o at hoA
    have ho : oget ops.toList i = some o := oget_iff.2 (by simpa using hoA)
    unfold wpOp
    rw [hoA]
    simp only
    -- what it reads is known
    have hrd : ∀ t ∈ rdsOf ops.toList i, Rel E w (lget σ.tm t) (a.tmps.toList.getD t undef) := by
      intro t ht
      refine I.slots t fun j hj hjn hjd => ?_
      have hq : isQ ops.toList j = true := by
        cases hq : isQ ops.toList j with
        | true => rfl
        | false => exact absurd (I.bars j hj hq) hjn
      obtain ⟨h1, h2⟩ := (hssa' j (I.lt j hj)).2 hq
      rcases h2 i hin with rfl | ⟨_, h3⟩
      · rw [hjd] at h1
        simp only [rdD, memb_not] at h1
        exact h1 ht
      · rw [hjd] at h3
        simp only [rdD, memb_not] at h3
        rcases h3 with h3 | h3
        · exact h3 ht
        · exact hjn (hpre j h3)
    have hsub : ∀ t, t ∈ tmpOf o.op.operands.toList → t ∈ rdsOf ops.toList i := by
      intro t ht
      unfold rdsOf
      rw [ho]
      simp only
      split
      · split
        · exact List.mem_cons_of_mem _ ht
        · exact ht
      · exact ht
    have hgs : ∀ j want t, o.guard = some (j, want) → dstOf ops.toList j = some t → Rel E w (lget σ.tm t) (a.tmps.toList.getD t undef) := by
      intro j want t h1 h2
      refine hrd t ?_
      unfold rdsOf
      rw [ho]
      simp only [h1, h2]
      exact List.mem_cons_self ..
    let ρA : Opd := fun x => match x with
      | .tmp t => if t ∈ rdsOf ops.toList i then lget σ.tm t else .bad
      | .const v => ofV v
      | .global _ => .bad
      | .func f => .fn (.func f) [] []
    have hρ : ∀ x, Rel E w (ρA x) (a.eval x) := by
      intro x
      cases x with
      | tmp t =>
        simp only [ρA]
        split
        · rename_i ht
          have := hrd t ht
          simpa [Act.eval, List.getD, Array.getD_eq_getD_getElem?] using this
        · trivial
      | const v => exact rel_ofV E w v
      | global g => exact trivial
      | func f => exact ⟨[], [], rfl, rfl, rfl⟩
    have hag : agree o.op.operands.toList (ev σ.tm) ρA := by
      intro x hx
      cases x with
      | tmp t => simp only [ev, ρA]; rw [if_pos (hsub t (mem_tmpOf.2 hx))]
      | const v => rfl
      | global g => rfl
      | func f => rfl
    have hplan := I.plan
    unfold planGo at hplan
    rw [andb_iff, andb_iff] at hplan
    have hwhere : i ∈ Pr ∨ ∃ s l', Alt s l' l ∧ s.bar = i := by
      have := (allN_iff.1 hplan.1) i (mem_rng.2 hin)
      simp only [orb_iff, memb_iff, anyN_iff, nob_iff, memb_not] at this
      rcases this with h | h | ⟨j, hj, hjP⟩
      · exact .inl h
      · exact .inr (alt_of_head h)
      · exact absurd (I.sub j (hpre j hj)) hjP
    rcases hwhere with hP | ⟨s, l', hal, rfl⟩
    · have hq : isQ ops.toList i = true := by
        cases hq : isQ ops.toList i with
        | true => rfl
        | false => exact absurd (I.bars i hP hq) hnd
      have hrc : i ∈ rc := by
        have hrcOK : rcOK ops.toList Pr rc = true := hplan.2.1
        have := (allN_iff.1 hrcOK) i hP
        simp only [orb_iff, nob_iff, memb_iff, anyN_iff, andb_iff] at this
        rcases this with h | h | ⟨k, hk, h1, h2⟩
        · rw [hq] at h; cases h
        · exact h
        · exact absurd (I.closed k (I.bars k hk h1) i h2) hnd
      obtain ⟨KK, hval⟩ := I.vals i hrc
      unfold valid at hval
      rw [ho] at hval
      simp only at hval
      rcases guarded_at hgs hval with ⟨hw, hy⟩ | ⟨hw, hno⟩
      · rw [if_pos hw]
        refine .inl ?_
        rw [qop_congr hag] at hy
        obtain ⟨v, av, h1, h2, h3⟩ := qop_sound hT I.mem hρ hy
        have h3 := (sameK_eq h3).1
        subst h3
        unfold Oper.wp
        refine upon_of_uponV ?_
        rw [h1]
        exact ih _ _ _ _ _ _ _ _ (I.wait ho hP hpre h2) hcnt
      · rw [if_neg (by simp [hw])]
        exact ih _ _ _ _ _ _ _ _ (I.wait ho hP hpre (by rw [(badK_eq hno).1]; rfl)) hcnt
    · have hst := I.rest
      have hst : stages tab fs call ops.toList l σ (Q .normal) := by
        cases l with
        | nil => exact hal.elim
        | cons a b c => exact hst
      have hst := alt_stage hal hst
      simp only [stage1, ho] at hst
      rcases guarded_at hgs hst with ⟨hw, hy⟩ | ⟨hw, hno⟩
      · rw [if_pos hw]
        refine .inl ?_
        rw [xopF_congr hag] at hy
        unfold Oper.wp
        refine upon_of_uponV (xopF_sound hT hFS hC I.mem hρ hy fun out m' k1 k2 E' w' hK hM hE => ?_)
        cases out with
        | ret av =>
          intro v hv
          obtain ⟨σ', hch, h1, h2, h3, h4, h5⟩ := runQ_ex hK
          have hst' := checks_k hch
          refine ih _ _ _ _ _ _ _ _ (I.turn hal ho hpre (tmA := killF k1 k2 σ.tm) (killF_len _) (fun t ht => ?_) hv hM ?_ h1 h2 h3 h4 h5 hch hst') hcnt
          · rw [killF_get]; exact ht.keep hE
          · simp only [after]; exact I.keep.transU hE
        | panic av => exact hK.elim
      · rw [if_neg (by simp [hw])]
        obtain ⟨σ', hch, h1, h2, h3, h4, h5⟩ := runQ_ex hno
        have hst' := checks_k hch
        exact ih _ _ _ _ _ _ _ _ (I.turn hal ho hpre (tmA := σ.tm) (av := .und) (v := undef) rfl (fun t ht => ht) rfl I.mem I.keep h1 h2 h3 h4 h5 hch hst') hcnt

/-- **Regions that draw their order.** -/
theorem draw_ok (hm : P.follows .mixedOrders = true) (C : Ctx) : DrawOK P tab fs call C := by
  intro id ops Q σ E w a h hS
  unfold adraw at h
  simp only [forceL_eq, forceT_eq] at h
  simp only [Array.length_toList] at h
  generalize closeQ ops.toList (rng ops.size) [] = q at h
  generalize pend ops.toList q q = rc at h
  generalize mkStages ops.toList ops.size ops.size q = l at h
  split at h
  · rename_i hplan
    unfold planOK at hplan
    rw [andb_iff, andb_iff] at hplan
    obtain ⟨h1, h2, h3⟩ := hplan
    have hsz : ops.toList.length = ops.size := by simp
    rw [hsz] at h1 h3
    obtain ⟨σ', hch, e1, e2, e3, e4, e5⟩ := runQ_ex h
    have hst := checks_k hch
    have hq := allN_iff.1 h2
    refine wp_region_any hm (draw_main hT hFS hC h1 ops.size _ q rc l σ' E a _ ?_ (cnt_start _ _ (Nat.le_refl _)))
    have hnd : ∀ i, ¬ done (Array.replicate ops.size false) i := by
      intro i hd
      unfold done at hd
      simp only [Array.getD_eq_getD_getElem?, Array.getElem?_replicate] at hd
      split at hd <;> simp at hd
    refine ⟨by simp, h3, checks_valid hch, hst, fun i hi => absurd hi (hnd i), fun i hi hb => ?_, fun i hi => absurd hi (hnd i), fun i hi => ?_, by rw [e1]; exact hS.mem.drew _, ?_, fun t ht => ?_, hS.dfr, ?_⟩
    · have := hq i hi; rw [this] at hb; cases hb
    · have hqi := hq i hi
      unfold isQ at hqi
      cases hg : oget ops.toList i with
      | none => rw [hg] at hqi; cases hqi
      | some oj =>
        have := (List.getElem?_eq_some_iff.1 (oget_iff.1 hg)).1
        simpa using this
    · rw [e4, ← hS.tm.length]; simp
    · rw [e5 t (fun j hj => ht j hj (hnd j))]
      have hk : EKeep E w E { w with drawn := w.drawn + 1 } [] [] := ⟨fun _ _ _ h => h, fun _ _ => rfl, fun _ _ _ h _ => ⟨h, fun _ _ h => h⟩⟩
      have := (hS.tm.get t).keep hk
      rwa [kill_nil] at this
    · rw [e2, e3]
      have hk : EKeep E w E { w with drawn := w.drawn + 1 } [] [] := ⟨fun _ _ _ h => h, fun _ _ => rfl, fun _ _ _ h _ => ⟨h, fun _ _ h => h⟩⟩
      have := hS.keep.trans hk
      simpa using this
  · exact h.elim
end main

end Go.Proofs.Yticnfdlfhakneaa.Sx
