/- The framework: regions, code, and calls: what the evaluator says is so. -/
import Derived.Test.YtkdemkkepepbdaaSx6
import Derived.LoopN
namespace Go.Proofs.Ytkdemkkepepbdaa.Sx
set_option linter.unusedSectionVars false
set_option linter.unusedVariables false
set_option linter.unusedSimpArgs false
open Go.RowKit

/-- What is fixed while one function runs. -/
structure Ctx where
  B : Base
  E0 : Env
  w0 : World

structure SatS (C : Ctx) (E : Env) (w : World) (σ : St) (a : Act) : Prop where
  mem : SatM C.B E σ.mem w
  tm : RelL E w σ.tm a.tmps.toList
  dfr : a.defers = []
  keep : EKeep C.E0 C.w0 E w σ.k1 σ.k2

def ExR (E : Env) (w : World) : AExit → Exit → Prop
  | .normal, e => e = .normal
  | .exit id, e => e = .exit id
  | .ret, e => e = .ret
  | .panic av, e => ∃ v, e = .panic [{ v := v, recovered := false }] ∧ Rel E w av v

def PQ (C : Ctx) (Q : AExit → St → Prop) : Exit → Act → World → Prop :=
  fun e a w => ∃ ae σ E, Q ae σ ∧ SatS C E w σ a ∧ ExR E w ae e

theorem ev_rel {E : Env} {w : World} {tm : List AV} {a : Act} (h : RelL E w tm a.tmps.toList) (x : Operand) : Rel E w (ev tm x) (a.eval x) := by
  cases x with
  | tmp t =>
    have := h.get t
    simpa [ev, Act.eval, List.getD, Array.getD_eq_getD_getElem?] using this
  | const v => exact rel_ofV E w v
  | global g => exact trivial
  | func f => exact ⟨[], [], rfl, rfl, rfl⟩

theorem put_rel {E : Env} {w : World} {tm : List AV} {a : Act} (h : RelL E w tm a.tmps.toList) (d : Option Tmp) {av : AV} {v : Value} (hv : Rel E w av v) :
    RelL E w (putT tm d av) (a.put d v).tmps.toList := by
  cases d with
  | none => exact h
  | some t => simpa [putT, Act.put] using h.set t hv

theorem put_defers (a : Act) (d : Option Tmp) (v : Value) : (a.put d v).defers = a.defers := by cases d <;> rfl

theorem killF_rel {E E' : Env} {w w' : World} {k1 k2 : List Nat} (k : EKeep E w E' w' k1 k2) {tm : List AV} {vs : List Value} (h : RelL E w tm vs) : RelL E' w' (killF k1 k2 tm) vs := by
  unfold killF
  split
  · have := h.keep k; rwa [killL_nil] at this
  · exact h.keep k

theorem lset_rel {E : Env} {w : World} {tm : List AV} {a : Act} (h : RelL E w tm a.tmps.toList) {t : Nat} {b c : Bool} (hl : lget tm t = .bool b) (hc : b = c) :
    RelL E w (lset tm t (.bool c)) a.tmps.toList := by
  have hg := h.get t
  rw [hl] at hg
  simp only [Rel] at hg
  have := h.set t (a := .bool c) (v := .bool c) rfl
  have e : a.tmps.toList.set t (.bool c) = a.tmps.toList := by
    subst hc
    by_cases hlt : t < a.tmps.toList.length
    · apply List.ext_getElem?
      intro i
      rw [List.getElem?_set]
      split
      · rename_i hi; subst hi
        rw [← hg]
        simp only [List.getD, List.getElem?_eq_getElem hlt, Option.getD_some]
      · rfl
    · exact List.set_eq_of_length_le (by omega)
  rwa [e] at this

section
variable {P : Program} {tab : Tab} {call : ACall} (hT : TabOK P tab) (hC : CallOK P call) {C : Ctx}

theorem oget_get : ∀ {l : List Oper} {j : Nat} {o : Oper}, oget l j = some o → l[j]? = some o
  | [], j, o, h => by simp [oget] at h
  | a :: l, 0, o, h => by simpa [oget] using h
  | a :: l, j + 1, o, h => by simpa using oget_get (l := l) (by simpa [oget] using h)

theorem yielded_und {ops : Array Oper} {j : Nat} {oj : Oper} {t : Tmp} {tmps : Array Value} (h1 : ops[j]? = some oj) (ht : oj.dst = some t) (h : tmps.toList.getD t undef = undef) : yielded ops tmps j = none := by
  have h3 : tmps[t]? = none ∨ tmps[t]? = some undef := by
    by_cases hlt : t < tmps.size
    · have : tmps.toList.getD t undef = tmps[t] := by simp [List.getD, List.getElem?_eq_getElem, hlt]
      rw [this] at h
      exact .inr (by rw [Array.getElem?_eq_getElem hlt, h])
    · exact .inl (by simp [hlt])
  rcases h3 with h3 | h3 <;> simp [yielded, h1, ht, h3, undef]

/-- An operation under its guard. -/
theorem guarded_sound {ops : Array Oper} {o : Oper} {σ : St} {yes no : St → Prop} {E : Env} {w : World} {a : Act} (hS : SatS C E w σ a) (h : guarded ops.toList o σ yes no) :
    (Region.wanted o (yielded ops a.tmps) = true ∧ ∃ σ', yes σ' ∧ SatS C E w σ' a ∧ σ'.mem = σ.mem) ∨
    (Region.wanted o (yielded ops a.tmps) = false ∧ ∃ σ', no σ' ∧ SatS C E w σ' a ∧ σ'.mem = σ.mem) := by
  unfold guarded at h
  split at h
  · rename_i hg
    exact .inl ⟨by simp [Region.wanted, hg], σ, h, hS, rfl⟩
  · rename_i j want hg
    split at h
    · rename_i oj hj
      split at h
      · rename_i t ht
        split at h
        · rename_i b hb
          have hy : yielded ops a.tmps j = some b := by
            have h1 : ops[j]? = some oj := by simpa using oget_get hj
            have h2 := hS.tm.get t
            rw [hb] at h2
            simp only [Rel] at h2
            have h3 : a.tmps[t]? = some (.bool b) := by
              by_cases hlt : t < a.tmps.size
              · have : a.tmps.toList.getD t undef = a.tmps[t] := by simp [List.getD, List.getElem?_eq_getElem, hlt]
                rw [this] at h2
                rw [Array.getElem?_eq_getElem hlt, h2]
              · have : a.tmps.toList.getD t undef = undef := by simp [List.getD, hlt]
                rw [this] at h2
                simp [undef] at h2
            simp [yielded, h1, ht, h3]
          have hset : ∀ c, b = c → SatS C E w { σ with tm := lset σ.tm t (.bool c) } a := fun c hc => ⟨hS.mem, lset_rel hS.tm hb hc, hS.dfr, hS.keep⟩
          split at h
          · cases b with
            | true => exact .inl ⟨by simp [Region.wanted, hg, hy], _, h, hset true rfl, rfl⟩
            | false => exact .inr ⟨by simp [Region.wanted, hg, hy], _, h, hset false rfl, rfl⟩
          · cases b with
            | true => exact .inr ⟨by simp [Region.wanted, hg, hy], _, h, hset true rfl, rfl⟩
            | false => exact .inl ⟨by simp [Region.wanted, hg, hy], _, h, hset false rfl, rfl⟩
        · rename_i hb
          have hy : yielded ops a.tmps j = none := by
            have h1 : ops[j]? = some oj := by simpa using oget_get hj
            have h2 := hS.tm.get t
            rw [hb] at h2
            simp only [Rel] at h2
            exact yielded_und h1 ht (by simpa using h2)
          exact .inr ⟨by simp [Region.wanted, hg, hy], σ, h, hS, rfl⟩
        · exact h.elim
      · exact h.elim
    · exact h.elim

include hT hC

/-- One operation. -/
theorem runOp_sound {o : Oper} {σ : St} {Q : AExit → St → Prop} {K : St → Prop} {E : Env} {w : World} {a : Act} (hS : SatS C E w σ a) (h : runOp tab call o σ Q K)
    {next : Act → World → Prop} {Q' : Exit → Act → World → Prop}
    (hn : ∀ σ' E' w' a', K σ' → SatS C E' w' σ' a' → next a' w') (hq : ∀ e a' w', PQ C Q e a' w' → Q' e a' w') : o.wp P a w next Q' := by
  unfold Oper.wp
  refine upon_of_uponV (xop_sound hT hC hS.mem (ev_rel hS.tm) h fun out m' k1 k2 E' w' hK hM hE => ?_)
  have htm := killF_rel hE hS.tm
  have hkeep : EKeep C.E0 C.w0 E' w' (uni k1 σ.k1) (uni k2 σ.k2) := hS.keep.transU hE
  cases out with
  | ret av =>
    intro v hv
    exact hn _ E' w' _ hK ⟨hM, put_rel htm o.dst hv, by rw [put_defers]; exact hS.dfr, hkeep⟩
  | panic av =>
    intro v hv
    exact hq _ _ _ ⟨_, _, E', hK, ⟨hM, htm, hS.dfr, hkeep⟩, v, rfl, hv⟩

theorem aops_sound {ops : Array Oper} {Q : AExit → St → Prop} : ∀ {l : List Oper} {σ : St} {E : Env} {w : World} {a : Act}, SatS C E w σ a → aops tab call ops.toList Q l σ →
    wpList P ops (PQ C Q) l a w
  | [], σ, E, w, a, hS, h => ⟨_, _, E, h, hS, rfl⟩
  | o :: l, σ, E, w, a, hS, h => by
    simp only [aops] at h
    unfold wpList
    rcases guarded_sound hS h with ⟨hw, σ', h, hS', _⟩ | ⟨hw, σ', h, hS', _⟩
    · rw [if_pos hw]
      exact .inl (runOp_sound hT hC hS' h (fun σ'' E' w' a' hK hS'' => aops_sound hS'' hK) fun _ _ _ h => h)
    · rw [if_neg (by simp [hw])]
      exact aops_sound (σ := { σ' with tm := putT σ'.tm o.dst .und }) ⟨hS'.mem, put_rel (av := .und) (v := undef) hS'.tm o.dst rfl, by rw [put_defers]; exact hS'.dfr, hS'.keep⟩ h
end

theorem not_ble {k : Nat} (h : Nat.ble 1000000 k = false) : k < 1000000 := by
  exact Nat.lt_of_not_le (Nat.not_le_of_not_ble_eq_true (by rw [h]; simp))
/-! ### gates -/

def GR (ops : Array Oper) (R : List RE) (i : Nat) (a : Act) : Prop :=
  ∀ e ∈ R, e.j < i ∧ (∀ x ∈ e.c, x.1 < i) ∧ (∃ oj, ops[e.j]? = some oj ∧ oj.dst = some e.t) ∧
    (gv R e.c = true → a.tmps.toList.getD e.t undef = .bool e.b) ∧ (gv R e.c = false → a.tmps.toList.getD e.t undef = undef)
def GG (R : List RE) (G : List GE) (i : Nat) (E : Env) (w : World) (a : Act) : Prop :=
  ∀ g ∈ G, (∀ x ∈ g.c, x.1 < i) ∧ (gv R g.c = true → Rel E w g.v (a.tmps.toList.getD g.t undef)) ∧ (gv R g.c = false → a.tmps.toList.getD g.t undef = undef)

theorem rlook_some : ∀ {R : List RE} {j : Nat} {e : RE}, rlook R j = some e → e ∈ R ∧ e.j = j
  | x :: R, j, e, h => by
    simp only [rlook] at h
    split at h
    · rename_i hb; cases h; exact ⟨List.mem_cons_self .., beq_true hb⟩
    · have := rlook_some h; exact ⟨List.mem_cons_of_mem _ this.1, this.2⟩
theorem rlookT_some : ∀ {R : List RE} {j : Nat} {e : RE}, rlookT R j = some e → e ∈ R ∧ e.t = j
  | x :: R, j, e, h => by
    simp only [rlookT] at h
    split at h
    · rename_i hb; cases h; exact ⟨List.mem_cons_self .., beq_true hb⟩
    · have := rlookT_some h; exact ⟨List.mem_cons_of_mem _ this.1, this.2⟩
theorem beq_false {a b : Nat} (h : Nat.beq a b = false) : a ≠ b := by intro e; subst e; simp at h
theorem rlookT_none : ∀ {R : List RE} {t : Nat}, rlookT R t = none → ∀ e ∈ R, e.t ≠ t
  | x :: R, t, h, e, he => by
    simp only [rlookT] at h
    split at h
    · cases h
    · rename_i hb
      cases he with
      | head => exact beq_false hb
      | tail _ he => exact rlookT_none h e he
theorem glook_some : ∀ {G : List GE} {t : Nat} {e : GE}, glook G t = some e → e ∈ G ∧ e.t = t
  | x :: G, j, e, h => by
    simp only [glook] at h
    split at h
    · rename_i hb; cases h; exact ⟨List.mem_cons_self .., beq_true hb⟩
    · have := glook_some h; exact ⟨List.mem_cons_of_mem _ this.1, this.2⟩
theorem glook_none : ∀ {G : List GE} {t : Nat}, glook G t = none → ∀ e ∈ G, e.t ≠ t
  | x :: G, t, h, e, he => by
    simp only [glook] at h
    split at h
    · cases h
    · rename_i hb
      cases he with
      | head => exact beq_false hb
      | tail _ he => exact glook_none h e he

theorem gv_iff {R : List RE} : ∀ {c : Chain}, gv R c = true ↔ ∀ x ∈ c, ∃ e, rlook R x.1 = some e ∧ lit x.2 e.b = true
  | [] => by simp [gv]
  | (j, w) :: l => by
    have hc : (∀ x ∈ (j, w) :: l, ∃ e, rlook R x.1 = some e ∧ lit x.2 e.b = true) ↔ (∃ e, rlook R j = some e ∧ lit w e.b = true) ∧ ∀ x ∈ l, ∃ e, rlook R x.1 = some e ∧ lit x.2 e.b = true := by
      constructor
      · exact fun h => ⟨h _ (List.mem_cons_self ..), fun x hx => h x (List.mem_cons_of_mem _ hx)⟩
      · intro h x hx
        cases hx with
        | head => exact h.1
        | tail _ hx => exact h.2 x hx
    rw [hc, ← gv_iff (c := l)]
    simp only [gv]
    cases hr : rlook R j with
    | none => simp
    | some e =>
      cases l with
      | nil => simp [gv]
      | cons y l => simp [andB]
theorem gv_cons {R : List RE} {x : Nat × Bool} {c : Chain} {e : RE} (h : rlook R x.1 = some e) : gv R (x :: c) = true ↔ lit x.2 e.b = true ∧ gv R c = true := by
  rw [gv_iff, gv_iff]
  constructor
  · intro hx
    obtain ⟨e', h1, h2⟩ := hx x (List.mem_cons_self ..)
    rw [h] at h1; cases h1
    exact ⟨h2, fun y hy => hx y (List.mem_cons_of_mem _ hy)⟩
  · intro hx y hy
    cases hy with
    | head => exact ⟨e, h, hx.1⟩
    | tail _ hy => exact hx.2 y hy
theorem bool_ext {a b : Bool} (h : a = true ↔ b = true) : a = b := by cases a <;> cases b <;> simp_all
theorem gv_push {R : List RE} {n : RE} {c : Chain} (h : ∀ x ∈ c, x.1 < n.j) : gv (n :: R) c = gv R c := by
  apply bool_ext
  rw [gv_iff, gv_iff]
  have : ∀ x ∈ c, rlook (n :: R) x.1 = rlook R x.1 := by
    intro x hx
    have := h x hx
    simp only [rlook]
    cases hb : Nat.beq n.j x.1 with
    | true => have := beq_true hb; omega
    | false => rfl
  constructor
  · intro hx x hc; obtain ⟨e, h1, h2⟩ := hx x hc; exact ⟨e, by rw [← this x hc]; exact h1, h2⟩
  · intro hx x hc; obtain ⟨e, h1, h2⟩ := hx x hc; exact ⟨e, by rw [this x hc]; exact h1, h2⟩
theorem gv_recR {ops : List Oper} {i : Nat} {d : Option Tmp} {ch c : Chain} {v : AV} {R : List RE} (h : ∀ x ∈ c, x.1 < i) : gv (recR ops i d ch v R) c = gv R c := by
  unfold recR
  split
  · split
    · exact gv_push h
    · rfl
  · rfl
theorem memC_mem {j : Nat} {w : Bool} : ∀ {c : Chain}, memC j w c = true → (j, w) ∈ c
  | (i, v) :: l, h => by
    simp only [memC] at h
    split at h
    · rename_i hb
      have := andb_split hb
      have h1 := beq_true this.1
      have h2 : w = v := by cases w <;> cases v <;> simp_all [sameB]
      subst h1 h2
      exact List.mem_cons_self ..
    · exact List.mem_cons_of_mem _ (memC_mem h)
theorem subC_sub : ∀ {c k : Chain}, subC c k = true → ∀ x ∈ c, x ∈ k
  | (j, w) :: l, k, h, x, hx => by
    simp only [subC] at h
    split at h
    · rename_i hm
      cases hx with
      | head => exact memC_mem hm
      | tail _ hx => exact subC_sub h x hx
    · cases h
theorem gv_sub {R : List RE} {c k : Chain} (h : subC c k = true) (hk : gv R k = true) : gv R c = true := by
  rw [gv_iff] at hk ⊢
  exact fun x hx => hk x (subC_sub h x hx)

theorem gev_rel {R : List RE} {G : List GE} {i : Nat} {E : Env} {w : World} {a : Act} {ch : Chain} {tm : List AV} (h : RelL E w tm a.tmps.toList) (hG : GG R G i E w a) (hc : gv R ch = true) (x : Operand) :
    Rel E w (gev G ch tm x) (a.eval x) := by
  cases x with
  | tmp t =>
    simp only [gev]
    split
    · rename_i e he
      split
      · rename_i hs
        have hm := glook_some he
        have := (hG e hm.1).2.1 (gv_sub hs hc)
        rw [hm.2] at this
        simpa [Act.eval, List.getD, Array.getD_eq_getD_getElem?] using this
      · simp [Rel]
    · exact ev_rel (x := .tmp t) h
  | const v => exact rel_ofV E w v
  | global g => exact trivial
  | func f => exact ⟨[], [], rfl, rfl, rfl⟩

theorem wanted_gv {ops : Array Oper} {R : List RE} {i : Nat} {a : Act} {o : Oper} {ch : Chain} (hR : GR ops R i a) (h : gchain R o = some ch) :
    Region.wanted o (yielded ops a.tmps) = gv R ch := by
  unfold gchain at h
  split at h
  · rename_i hg; cases h; simp [Region.wanted, hg, gv]
  · rename_i j w hg
    split at h
    · rename_i e he
      cases h
      have hm := rlook_some he
      obtain ⟨_, _, ⟨oj, h1, h2⟩, h3, h4⟩ := hR e hm.1
      rw [hm.2] at h1
      have hgv := gv_cons (x := (j, w)) (c := e.c) he
      apply bool_ext
      rw [hgv]
      simp only [Region.wanted, hg]
      cases hc : gv R e.c with
      | true =>
        have hb := h3 hc
        have h5 : a.tmps[e.t]? = some (.bool e.b) := by
          by_cases hlt : e.t < a.tmps.size
          · have : a.tmps.toList.getD e.t undef = a.tmps[e.t] := by simp [List.getD, List.getElem?_eq_getElem, hlt]
            rw [this] at hb
            rw [Array.getElem?_eq_getElem hlt, hb]
          · have : a.tmps.toList.getD e.t undef = undef := by simp [List.getD, hlt]
            rw [this] at hb
            simp [undef] at hb
        simp only [yielded, h1, h2, h5, Option.bind_some]
        cases w <;> cases e.b <;> simp [lit, notB]
      | false =>
        have := yielded_und h1 h2 (h4 hc)
        simp [this]
    · cases h

theorem getD_set_ne {l : List Value} {t s : Nat} {v : Value} (h : s ≠ t) : (l.set t v).getD s undef = l.getD s undef := by
  simp [List.getD, List.getElem?_set_ne (Ne.symm h)]
theorem getD_set_eq {l : List Value} {t : Nat} {v : Value} (h : t < l.length) : (l.set t v).getD t undef = v := by
  simp [List.getD, h]

theorem killG_nil : ∀ G : List GE, killG [] [] G = G
  | [] => rfl
  | e :: l => by simp [killG, killG_nil l]
theorem killG_mem {k1 k2 : List Nat} : ∀ {G : List GE} {g : GE}, g ∈ killG k1 k2 G → ∃ g0 ∈ G, g.t = g0.t ∧ g.c = g0.c ∧ g.v = kill k1 k2 g0.v
  | e :: l, g, h => by
    simp only [killG] at h
    cases h with
    | head =>
      refine ⟨e, List.mem_cons_self .., rfl, rfl, ?_⟩
      show (match k1, k2 with | [], [] => e.v | _, _ => kill k1 k2 e.v) = _
      split
      · rw [kill_nil]
      · rfl
    | tail _ h =>
      obtain ⟨g0, h1, h2⟩ := killG_mem h
      exact ⟨g0, List.mem_cons_of_mem _ h1, h2⟩

/-- What a step leaves of the gates. -/
theorem gates_step {ops : Array Oper} {R : List RE} {G : List GE} {i : Nat} {E E' : Env} {w w' : World} {a : Act} {o : Oper} {ch : Chain} {v : AV} {val : Value} {tm : List AV} {k1 k2 : List Nat}
    (hR : GR ops R i a) (hG : GG R G i E w a) (hk : EKeep E w E' w' k1 k2) (hch : ∀ x ∈ ch, x.1 < i) (ho : ops[i]? = some o) (hf : freshO R G tm o.dst = true) (htm : RelL E w tm a.tmps.toList)
    (h1 : gv R ch = true → Rel E' w' v val) (h2 : gv R ch = false → val = undef) :
    GR ops (recR ops.toList i o.dst ch v R) (i + 1) (a.put o.dst val) ∧ GG (recR ops.toList i o.dst ch v R) (recG o.dst ch v (killG k1 k2 G)) (i + 1) E' w' (a.put o.dst val) := by
  cases hd : o.dst with
  | none =>
    refine ⟨fun e he => ?_, fun g hg => ?_⟩
    · obtain ⟨a1, a2, a3⟩ := hR e he
      exact ⟨by omega, fun x hx => by have := a2 x hx; omega, a3⟩
    · obtain ⟨g0, hg0, e1, e2, e3⟩ := killG_mem hg
      obtain ⟨a1, a2, a3⟩ := hG g0 hg0
      rw [e1, e2, e3]
      exact ⟨fun x hx => by have := a1 x hx; omega, fun h => (a2 h).keep hk, a3⟩
  | some t =>
    rw [hd] at hf
    have hf := andb_split hf
    have hlt : t < a.tmps.toList.length := by rw [htm.length, ← llen_eq]; exact blt_lt hf.1
    have hfr : rlookT R t = none ∧ glook G t = none := by
      have := hf.2
      unfold freshT at this
      split at this
      · rename_i x y; exact ⟨x, y⟩
      · cases this
    have hpt : (a.put (some t) val).tmps.toList = a.tmps.toList.set t val := by simp [Act.put]
    have oldR : ∀ e ∈ R, e.j < i + 1 ∧ (∀ x ∈ e.c, x.1 < i + 1) ∧ (∃ oj, ops[e.j]? = some oj ∧ oj.dst = some e.t) ∧
        (gv (recR ops.toList i (some t) ch v R) e.c = true → (a.put (some t) val).tmps.toList.getD e.t undef = .bool e.b) ∧ (gv (recR ops.toList i (some t) ch v R) e.c = false → (a.put (some t) val).tmps.toList.getD e.t undef = undef) := by
      intro e he
      obtain ⟨a1, a2, a3, a4, a5⟩ := hR e he
      rw [gv_recR a2, hpt, getD_set_ne (rlookT_none hfr.1 e he)]
      exact ⟨by omega, fun x hx => by have := a2 x hx; omega, a3, a4, a5⟩
    have oldG : ∀ g ∈ killG k1 k2 G, (∀ x ∈ g.c, x.1 < i + 1) ∧ (gv (recR ops.toList i (some t) ch v R) g.c = true → Rel E' w' g.v ((a.put (some t) val).tmps.toList.getD g.t undef)) ∧ (gv (recR ops.toList i (some t) ch v R) g.c = false → (a.put (some t) val).tmps.toList.getD g.t undef = undef) := by
      intro g hg
      obtain ⟨g0, hg0, e1, e2, e3⟩ := killG_mem hg
      obtain ⟨a1, a2, a3⟩ := hG g0 hg0
      rw [e1, e2, e3]
      rw [gv_recR a1, hpt, getD_set_ne (glook_none hfr.2 g0 hg0)]
      exact ⟨fun x hx => by have := a1 x hx; omega, fun h => (a2 h).keep hk, a3⟩
    refine ⟨fun e he => ?_, fun g hg => ?_⟩
    · have hsplit : e ∈ R ∨ ∃ b, v = .bool b ∧ e = ⟨i, t, ch, b⟩ := by
        have he' := he
        unfold recR at he'
        split at he'
        · rename_i t' b ht
          cases ht
          split at he'
          · cases he' with
            | head => exact .inr ⟨b, rfl, rfl⟩
            | tail _ he' => exact .inl he'
          · exact .inl he'
        · exact .inl he'
      rcases hsplit with he' | ⟨b, rfl, rfl⟩
      · exact oldR e he'
      · refine ⟨by simp, fun x hx => by have := hch x hx; omega, ⟨o, ho, hd⟩, fun h => ?_, fun h => ?_⟩
        · rw [gv_recR hch] at h
          rw [hpt, getD_set_eq hlt]
          exact h1 h
        · rw [gv_recR hch] at h
          rw [hpt, getD_set_eq hlt]
          exact h2 h
    · have hsplit : g ∈ killG k1 k2 G ∨ g = ⟨t, ch, v⟩ := by
        have hg' := hg
        unfold recG at hg'
        split at hg'
        · rename_i t' y c ht
          cases ht
          cases hg' with
          | head => exact .inr rfl
          | tail _ hg' => exact .inl hg'
        · exact .inl hg'
      rcases hsplit with hg' | rfl
      · exact oldG g hg'
      · refine ⟨fun x hx => by have := hch x hx; omega, fun h => ?_, fun h => ?_⟩
        · rw [gv_recR hch] at h
          rw [hpt, getD_set_eq hlt]
          exact h1 h
        · rw [gv_recR hch] at h
          rw [hpt, getD_set_eq hlt]
          exact h2 h

theorem putG_rel {R : List RE} {E E' : Env} {w w' : World} {a : Act} {d : Option Tmp} {ch : Chain} {v : AV} {val : Value} {tm : List AV} (hk : EKeep E w E' w' [] []) (htm : RelL E w tm a.tmps.toList)
    (h1 : gv R ch = true → Rel E' w' v val) : RelL E' w' (putG tm d ch v) (a.put d val).tmps.toList := by
  have htm' : RelL E' w' tm a.tmps.toList := by have := htm.keep hk; rwa [killL_nil] at this
  unfold putG
  split
  · exact put_rel htm' _ (h1 rfl)
  · exact put_rel htm' _ (by simp [Rel])

theorem rset_eq : ∀ {R : List RE} {j : Nat} {e : RE} {b : Bool}, rlook R j = some e → e.b = b → rset R j b = R
  | x :: R, j, e, b, h, hb => by
    simp only [rlook] at h
    unfold rset
    split at h
    · rename_i hj; cases h; rw [← hb]
    · rw [rset_eq h hb]
theorem revC_mem {x : Nat × Bool} : ∀ {k l : Chain}, x ∈ revC k l ↔ x ∈ k ∨ x ∈ l
  | [], l => by simp [revC]
  | a :: k, l => by
    simp only [revC, revC_mem (k := k), List.mem_cons]
    constructor
    · rintro (h | h | h)
      · exact .inl (.inr h)
      · exact .inl (.inl h)
      · exact .inr h
    · rintro ((h | h) | h)
      · exact .inr (.inl h)
      · exact .inl h
      · exact .inr (.inr h)
theorem splitG_sound {R : List RE} {yes no : List RE → Prop} : ∀ {c : Chain}, splitG c R yes no →
    ((∀ x ∈ c, ∃ e, rlook R x.1 = some e ∧ lit x.2 e.b = true) ∧ yes R) ∨ ((∃ x ∈ c, ∃ e, rlook R x.1 = some e ∧ lit x.2 e.b = false) ∧ no R)
  | [], h => .inl ⟨fun x hx => by (cases hx), h⟩
  | (j, w) :: l, h => by
    simp only [splitG] at h
    split at h
    · rename_i e he
      have cont : ∀ {b : Bool}, e.b = b → lit w b = true → splitG l (rset R j b) yes no → ((∀ x ∈ (j, w) :: l, ∃ e, rlook R x.1 = some e ∧ lit x.2 e.b = true) ∧ yes R) ∨ ((∃ x ∈ (j, w) :: l, ∃ e, rlook R x.1 = some e ∧ lit x.2 e.b = false) ∧ no R) := by
        intro b hb hl hs
        rw [rset_eq he hb] at hs
        rcases splitG_sound hs with ⟨h1, h2⟩ | ⟨⟨x, hx, h1⟩, h2⟩
        · refine .inl ⟨fun x hx => ?_, h2⟩
          cases hx with
          | head => exact ⟨e, he, by rw [hb]; exact hl⟩
          | tail _ hx => exact h1 x hx
        · exact .inr ⟨⟨x, List.mem_cons_of_mem _ hx, h1⟩, h2⟩
      have stop : ∀ {b : Bool}, e.b = b → lit w b = false → no (rset R j b) → ((∀ x ∈ (j, w) :: l, ∃ e, rlook R x.1 = some e ∧ lit x.2 e.b = true) ∧ yes R) ∨ ((∃ x ∈ (j, w) :: l, ∃ e, rlook R x.1 = some e ∧ lit x.2 e.b = false) ∧ no R) := by
        intro b hb hl hs
        rw [rset_eq he hb] at hs
        exact .inr ⟨⟨_, List.mem_cons_self .., e, he, by rw [hb]; exact hl⟩, hs⟩
      have h' := h
      cases w with
      | true =>
        simp only at h'
        rw [ifB_iff] at h'
        cases hb : e.b with
        | true => exact cont hb rfl (h'.1 hb)
        | false => exact stop hb rfl (h'.2 hb)
      | false =>
        simp only at h'
        rw [ifB_iff] at h'
        cases hb : e.b with
        | true => exact stop hb rfl (h'.1 hb)
        | false => exact cont hb rfl (h'.2 hb)
    · exact h.elim

theorem gchain_lt {ops : Array Oper} {R : List RE} {i : Nat} {a : Act} {o : Oper} {ch : Chain} (hR : GR ops R i a) (h : gchain R o = some ch) : ∀ x ∈ ch, x.1 < i := by
  unfold gchain at h
  split at h
  · cases h; intro x hx; cases hx
  · split at h
    · rename_i e he
      cases h
      have hm := rlook_some he
      have := hR e hm.1
      intro x hx
      cases hx with
      | head => rw [← hm.2]; exact this.1
      | tail _ hx => exact this.2.1 x hx
    · cases h

theorem selTm_rel {E : Env} {w : World} {ws : List Nat} {c : Bool} : ∀ {l l' : List AV} {i : Nat} {vs : List Value}, l.length = l'.length → (∀ t, i + t ∉ ws → lget l t = lget l' t) →
    (c = true → RelL E w l vs) → (c = false → RelL E w l' vs) → RelL E w (selTm ws c i l l') vs
  | [], [], i, vs, _, _, h1, h2 => by
    simp only [selTm]
    cases c
    · exact h2 rfl
    · exact h1 rfl
  | a :: l, b :: l', i, vs, hl, heq, h1, h2 => by
    have key : ∃ v us, vs = v :: us ∧ (c = true → Rel E w a v ∧ RelL E w l us) ∧ (c = false → Rel E w b v ∧ RelL E w l' us) := by
      cases c
      · obtain ⟨v, us, rfl, h3, h4⟩ := h2 rfl
        exact ⟨v, us, rfl, (fun h => by cases h), fun _ => ⟨h3, h4⟩⟩
      · obtain ⟨v, us, rfl, h3, h4⟩ := h1 rfl
        exact ⟨v, us, rfl, fun _ => ⟨h3, h4⟩, (fun h => by cases h)⟩
    obtain ⟨v, us, rfl, k1, k2⟩ := key
    simp only [selTm]
    refine ⟨v, us, rfl, ?_, selTm_rel (by simpa using hl) (fun t ht => by have := heq (t + 1) (by rw [← Nat.add_assoc, Nat.add_right_comm]; exact ht); simpa [lget] using this) (fun h => (k1 h).2) (fun h => (k2 h).2)⟩
    split
    · split
      · rename_i z hz
        exact selV_sound hz (fun h => (k1 h).1) (fun h => (k2 h).1)
      · simp [Rel]
    · rename_i hm
      have hab : a = b := by
        have := heq 0 (by simpa using memb_false hm)
        simpa [lget] using this
      cases c
      · rw [hab]; exact (k2 rfl).1
      · exact (k1 rfl).1
  | [], _ :: _, _, _, hl, _, _, _ => by simp at hl
  | _ :: _, [], _, _, hl, _, _, _ => by simp at hl

theorem selTm_length {ws : List Nat} {c : Bool} : ∀ {l l' : List AV} {i : Nat}, l.length = l'.length → (selTm ws c i l l').length = l.length
  | [], [], i, _ => rfl
  | a :: l, b :: l', i, h => by simp only [selTm, List.length_cons]; rw [selTm_length (by simpa using h)]
  | [], _ :: _, _, h => by simp at h
  | _ :: _, [], _, h => by simp at h
theorem selTm_get {ws : List Nat} {c : Bool} : ∀ {l l' : List AV} {i t : Nat}, l.length = l'.length → i + t ∉ ws → lget (selTm ws c i l l') t = lget l t
  | [], [], i, t, _, _ => rfl
  | a :: l, b :: l', i, t, h, ht => by
    simp only [selTm]
    cases t with
    | zero =>
      simp only [lget]
      split
      · rename_i hm; exact absurd (memb_true hm) (by simpa using ht)
      · rfl
    | succ t => simpa only [lget] using selTm_get (i := i + 1) (by simpa using h) (by rw [← Nat.add_assoc, Nat.add_right_comm] at ht; exact ht)
  | [], _ :: _, _, _, h, _ => by simp at h
  | _ :: _, [], _, _, h, _ => by simp at h
theorem lset_len : ∀ (l : List AV) (n : Nat) (a : AV), (lset l n a).length = l.length
  | [], _, _ => rfl
  | b :: l, 0, a => rfl
  | b :: l, n + 1, a => by simp [lset, lset_len l n a]
theorem putG_len {tm : List AV} {d : Option Tmp} {ch : Chain} {v : AV} : (putG tm d ch v).length = tm.length := by
  unfold putG
  split <;> (cases d <;> simp [putT, lset_len])

section
variable {P : Program} {tab : Tab} {fs : FS} (hT : TabOK P tab) (hF : FSOK P fs) {C : Ctx}
include hT hF

theorem callV_sound {o : Oper} {ρA : Opd} {ρ : Operand → Value} {B : Base} {E : Env} {m : List Blk} {w : World} (hS : SatM B E m w) (hρ : ∀ x, Rel E w (ρA x) (ρ x)) {ps : List Prop} {av : AV}
    (h : callV fs o ρA m = some (ps, av)) (hp : AllP ps) {next : Value → World → Prop} {pan : List PanicEntry → World → Prop}
    (hn : ∀ v E' w', SatM B E' m w' → EKeep E w E' w' [] [] → Rel E' w' av v → next v w') : uponV P next pan ((execOp ρ o).run P w) := by
  unfold callV at h
  unfold execOp
  cases hop : o.op <;> rw [hop] at h <;> (try simp only [reduceCtorEq] at h)
  rename_i c
  cases hcal : c.callee <;> rw [hcal] at h <;> (try simp only [reduceCtorEq] at h)
  rename_i f
  have hf := hρ f
  cases hv : ρA f <;> rw [hv] at h hf <;> (try simp only [reduceCtorEq] at h)
  rename_i fn first cap
  cases fn <;> (try simp only [reduceCtorEq] at h)
  rename_i k
  split at h
  · cases h
  rename_i hkb
  have hk : k < 1000000 := not_ble hkb
  obtain ⟨a, b, hfv, h1, h2⟩ := hf
  have hargs := relL_evs hρ c.args.toList
  have hall : RelL E w (app (app first (evs ρA c.args.toList)) cap) ((a ++ c.args.toList.map ρ) ++ b) := (h1.app hargs).app h2
  have hcall : (do let d ← resolve ρ c o.type; invoke d.target d.args : Sem Next).run P w = (callFunc k ((a ++ c.args.toList.map ρ) ++ b).toArray).run P w := by
    have : (a.toArray ++ c.args.map ρ ++ b.toArray) = ((a ++ c.args.toList.map ρ) ++ b).toArray := by
      apply Array.ext'; simp
    simp only [resolve, hcal, hfv, Deferred.ofValue, Sem.run_bind, Sem.run_pure, Result.andThen_ok, invoke, this]
  rw [hcall]
  cases hl : fslook fs k with
  | none =>
    rw [hl] at h
    simp only at h
    cases hl2 : fslook fs (k + 1000000) with
    | none => rw [hl2] at h; cases h
    | some F =>
      rw [hl2] at h
      have hx := (hF _ F hl2).2 (Nat.le_add_left _ _)
      rw [Nat.add_sub_cancel] at hx
      obtain ⟨u, hu1, hu2⟩ := hx _ _ _ _ h hp E w _ hall
      rw [hu1]
      exact hn u E w hS (EKeep.refl E w) hu2
  | some F =>
    rw [hl] at h
    simp only at h
    have hsp := (hF k F hl).1 hk
    have hcalls := hsp.calls (K := fun out m' k1 k2 => out = .ret av ∧ m' = m ∧ k1 = [] ∧ k2 = []) (show fspecS F _ m _ by unfold fspecS; rw [h]; exact needL_iff.2 ⟨hp, rfl, rfl, rfl, rfl⟩) B E w _ hS hall
    rw [hsp.step]
    simp only [uponV]
    refine hcalls.mono fun e w' he => ?_
    obtain ⟨out, m', k1, k2, E', ⟨rfl, rfl, rfl, rfl⟩, hS', hE, v, rfl, hr⟩ := he
    exact .inl ⟨v, rfl, hn v E' w' hS' hE hr⟩

theorem xopF_sound {call : ACall} (hC : CallOK P call) {B : Base} {E : Env} {m : List Blk} {w : World} (hS : SatM B E m w) {o : Oper} {ρA : Opd} {ρ : Operand → Value} (hρ : ∀ x, Rel E w (ρA x) (ρ x)) {K : AK} (h : xopF tab fs call o ρA m K)
    {next : Value → World → Prop} {pan : List PanicEntry → World → Prop}
    (hn : ∀ out m' k1 k2 E' w', K out m' k1 k2 → SatM B E' m' w' → EKeep E w E' w' k1 k2 →
      (match out with | .ret av => ∀ v, Rel E' w' av v → next v w' | .panic av => ∀ v, Rel E' w' av v → pan [{ v := v, recovered := false }] w')) :
    uponV P next pan ((execOp ρ o).run P w) := by
  unfold xopF at h
  split at h
  · exact xop_sound hT hC hS hρ h hn
  · split at h
    · rename_i ps v hv
      have h := needL_iff.1 h
      exact callV_sound hT hF hS hρ hv h.1 fun u E' w' hM hk hr => hn _ _ _ _ E' w' h.2 hM hk u hr
    · exact xop_sound hT hC hS hρ h hn

theorem pick_sound {o : Oper} {c a' b' : Operand} (hop : o.op = .pick c a' b') {ops : Array Oper} {R : List RE} {G : List GE} {i : Nat} {E : Env} {w : World} {a : Act} {ch : Chain} {tm : List AV} {cb : Bool} {ca cc : Chain}
    (hR : GR ops R i a) (hG : GG R G i E w a) (htm : RelL E w tm a.tmps.toList) (hc : gv R ch = true) (h : pickC R G ch c = some (cb, ca, cc)) {ps : List Prop} {av : AV}
    (hv : pickVV cb (gev G ca tm a') (gev G cc tm b') = some (ps, av)) (hp : AllP ps) : ∃ v, (execOp a.eval o).run P w = .ok (.value v) w ∧ Rel E w av v := by
  unfold pickC at h
  split at h
  · rename_i t
    split at h
    · rename_i e0 he0
      split at h
      · rename_i e he
        split at h
        · rename_i hs
          have hs := andb_split hs
          cases h
          have hm := rlook_some he
          obtain ⟨_, _, _, h3, _⟩ := hR e hm.1
          have hb := h3 (gv_sub hs.2 hc)
          rw [beq_true hs.1] at hb
          have hcv : a.eval (.tmp t) = .bool e.b := by simpa [Act.eval, List.getD, Array.getD_eq_getD_getElem?] using hb
          refine ⟨if e.b then a.eval a' else a.eval b', ?_, pickVV_sound hv hp (fun hb => ?_) (fun hb => ?_)⟩
          · simp [execOp, hop, hcv, asBool]
          · rw [hb]
            exact gev_rel htm hG ((gv_cons (x := (e0.j, true)) he).2 ⟨by simp [lit, hb], hc⟩) a'
          · rw [hb]
            exact gev_rel htm hG ((gv_cons (x := (e0.j, false)) he).2 ⟨by simp [lit, hb, notB], hc⟩) b'
        · cases h
      · cases h
    · cases h
  · cases h

theorem gval_sound {o : Oper} {ops : Array Oper} {R : List RE} {G : List GE} {i : Nat} {E : Env} {w : World} {a : Act} {ch : Chain} {σ : St} (hS : SatS C E w σ a)
    (hR : GR ops R i a) (hG : GG R G i E w a) (hc : gv R ch = true) {ps : List Prop} {av : AV} (h : gval tab fs o R G ch σ = some (ps, av)) (hp : AllP ps)
    {next : Value → World → Prop} {pan : List PanicEntry → World → Prop}
    (hn : ∀ v E' w', SatM C.B E' σ.mem w' → EKeep E w E' w' [] [] → Rel E' w' av v → next v w') : uponV P next pan ((execOp a.eval o).run P w) := by
  have hρ := gev_rel hS.tm hG hc
  have quietly : (∃ v, (execOp a.eval o).run P w = .ok (.value v) w ∧ Rel E w av v) → uponV P next pan ((execOp a.eval o).run P w) := by
    rintro ⟨v, h1, h2⟩
    rw [h1]
    exact hn v E w hS.mem (EKeep.refl E w) h2
  unfold gval at h
  split at h
  · rename_i c a' b' hop
    split at h
    · rename_i cb ca cc hpc
      exact quietly (pick_sound hT hF hop hR hG hS.tm hc hpc h hp)
    · exact quietly (qval_sound hT hS.mem hρ h hp)
  · split at h
    · rename_i r hr
      cases h
      exact quietly (qval_sound hT hS.mem hρ hr hp)
    · exact callV_sound hT hF hS.mem hρ h hp hn

omit hT hF in
theorem killB_nil7 (b : Blk) : killB [] [] b = b := by
  cases b with
  | dead => rfl
  | var l => simp only [killB, killL_nil]
  | row e t xs src => simp only [killB, hits_nil]
omit hT hF in
theorem SatM.grown {B : Base} {E : Env} {m : List Blk} {w w' : World} (hM : SatM B E m w) (hg : w.grownBy w' none) : SatM B E m w' ∧ EKeep E w E w' [] [] := by
  have hsame : ∀ b, b < w.heap.size → w'.heap[b]? = w.heap[b]? := fun b hb => hg.block b hb (by simp)
  have hk : EKeep E w E w' [] [] := by
    refine ⟨fun _ _ _ h => h, fun _ _ => rfl, fun src _ b hok hex => ⟨hok, fun o v hv => ?_⟩⟩
    have hlt := World.block_lt_of_cell? w _ hv
    rw [← hv]
    exact World.cell?_of_block (w := w) (w' := w') (a := ⟨b, o, none⟩) (hsame b hlt)
  refine ⟨⟨fun i bk hb => ?_, hM.out, hM.inj, fun i b hb => ⟨(hM.old i b hb).1, Nat.lt_of_lt_of_le (hM.old i b hb).2 hg.size⟩, hg.os.trans hM.os, hg.tape.trans hM.tape, hg.output.trans hM.output, Nat.le_trans hM.size hg.size,
      fun b hb hF => (hsame b (Nat.lt_of_lt_of_le hb hM.size)).trans (hM.frame b hb hF), hM.T, hM.FT⟩, hk⟩
  have := (hM.blk i bk hb).keep hk (fun b hb => hsame b (hM.old i b hb).2) rfl rfl
  rwa [killB_nil7] at this
omit hF in
theorem newV_sound {o : Oper} {ρA : Opd} {ρ : Operand → Value} {B : Base} {E : Env} {m : List Blk} {w : World} (hS : SatM B E m w) (hρ : ∀ x, Rel E w (ρA x) (ρ x)) {ps : List Prop} {av : AV}
    (h : newV tab o ρA m = some (ps, av)) {next : Value → World → Prop} {pan : List PanicEntry → World → Prop}
    (hn : ∀ v E' w', SatM B E' m w' → EKeep E w E' w' [] [] → Rel E' w' av v → next v w') : uponV P next pan ((execOp ρ o).run P w) := by
  unfold newV at h
  unfold execOp
  cases hop : o.op <;> rw [hop] at h <;> (try simp only [reduceCtorEq] at h)
  rename_i t len parts
  simp only at h ⊢
  split at h
  · rename_i e hk
    obtain ⟨d, hd, hkd⟩ := kind_ok hT hk (by simp)
    cases d <;> simp only [tkOf, reduceCtorEq, TK.slice.injEq] at hkd
    rw [hkd] at hd
    cases ht : tlook tab e with
    | none => rw [ht] at h; cases h
    | some ti =>
      rw [ht] at h
      simp only at h
      have hent := hT e ti ht
      cases hz : cells? (ofV ti.zero) with
      | none => rw [hz] at h; cases h
      | some z =>
        rw [hz] at h
        simp only at h
        split at h
        · rename_i cells T hc hfi hty
          have hc1 := andb_split hc
          have hc2 := andb_split hc1.2
          have hle := ble_true hc1.1
          have hzl : z.length = ti.size := by rw [← llen_eq]; exact beq_true hc2.1
          have hpos : 0 < ti.size := blt_lt hc2.2
          obtain ⟨zs, hzs, hrz⟩ := Rel.cells (rel_ofV E w ti.zero) hz
          have hzsl : zs.length = ti.size := by rw [hrz.length, hzl]
          obtain ⟨us, hfill, hrel⟩ := fillE_sound (relP_evp hρ parts.toList) (relL_zeros hrz (by rw [hzl]; exact hpos) len) hfi
          have husl : us.length = len * ti.size := by
            have h1 : ∀ {parts : List (Nat × AV)} {cells out : List AV}, fillE ti.size cells parts = some out → out.length = cells.length := by
              intro parts
              induction parts with
              | nil => intro cells out h; simp only [fillE, Option.some.injEq] at h; rw [h]
              | cons p parts ih =>
                intro cells out h
                obtain ⟨i, v⟩ := p
                simp only [fillE] at h
                repeat' (split at h)
                all_goals first | cases h | (rw [ih h, lput_length])
            rw [hrel.length, h1 hfi, repL_len, hzl]
          have hparts : (Array.map (fun x : Nat × Operand => (x.1, ρ x.2)) parts).toList = parts.toList.map fun x => (x.1, ρ x.2) := by simp
          have hrun : (Instr.buildSlice t len (Array.map (fun x : Nat × Operand => (x.1, ρ x.2)) parts)).run P w = .ok (.slice (some ⟨w.heap.size, 0, none⟩) len len) (w.alloc (.cells us.toArray e)) := by
            have hnot : ¬ len * ti.size > 2 ^ 24 := by omega
            have harr : ∀ zz : Array Value, (len * ti.size = 0 ∨ zz = zs.toArray) → (Array.range (len * ti.size)).map (fun i => zz[i % zz.size]!) = ((List.range (len * zs.length)).map fun i => zs.toArray[i % zs.toArray.size]!).toArray := by
              intro zz hzz
              rw [hzsl]
              rcases hzz with h0 | rfl
              · simp [h0]
              · apply Array.ext'
                simp
            simp only [Instr.buildSlice, Sem.run_bind, Go.underlying, run_program, hd, Sem.run_pure, Result.andThen_ok, hent.sizeOf w]
            rw [if_neg hnot]
            split
            · rename_i h0
              simp only [Sem.run_bind, Sem.run_pure, Result.andThen_ok, harr _ (.inl h0), hparts, hfill, newRow]
              simp
            · simp only [Sem.run_bind, Sem.run_pure, Result.andThen_ok, hent.zeroValue w, hzs, harr _ (.inr rfl), hparts, hfill, newRow]
              simp
          split at h
          · rename_i ys hb hde
            cases h
            have hnc := beq_true hb
            have hdn := decN_sound (src := srcsL (mapAV (freeze m 4) cells)) hde (fun _ h => h) (mapAV_rel (fun h => freeze_rel hS 4 h) hrel)
            have hg : w.grownBy (w.alloc (.cells us.toArray e)) none := World.grownBy_alloc w _ none
            obtain ⟨hM', hk'⟩ := hS.grown hg
            have hd' := hdn.1.keep (hk'.2.2 (srcsL (mapAV (freeze m 4) cells)) (fun _ _ h => by cases h))
            have hT' : E.T w.heap.size := (hS.T _).2 (.inr hS.size)
            have hok : E.ok (srcsL (mapAV (freeze m 4) cells)) w.heap.size := ⟨hT', fun i hi => by have := (hS.old i _ hi).2; omega⟩
            have hr : Rel E (w.alloc (.cells us.toArray e)) (.view (srcsL (mapAV (freeze m 4) cells)) T ys) (.slice (some ⟨w.heap.size, 0, none⟩) len len) := by
              refine ⟨some ⟨w.heap.size, 0, none⟩, len, by rw [hdn.2], ⟨?_, by rw [hdn.2]; exact Nat.le_refl _⟩, .inr ⟨w.heap.size, 0, rfl, hok, fun k x hk => ?_⟩⟩
              · rw [hdn.2]
                have : len ≤ len * ti.size := Nat.le_mul_of_pos_right _ hpos
                unfold LIM; omega
              · have hdk := hd'.get k x hk
                refine ⟨_, hdk.length, ?_, hdk⟩
                intro j v hj
                have hj' : us[k * nc T + j]? = some v := by
                  rw [List.getElem?_take] at hj
                  split at hj
                  · simpa [List.getElem?_drop] using hj
                  · cases hj
                have hh := heap_alloc_new w (.cells us.toArray e)
                rw [show (0 + k * nc T + j) = k * nc T + j by omega, cell_of_heap hh]
                exact hj'
            have := hn _ E _ hM' hk' hr
            simpa [hrun, uponV] using this
          · cases h
        · cases h
  · cases h
theorem gvalN_sound {o : Oper} {ops : Array Oper} {R : List RE} {G : List GE} {i : Nat} {E : Env} {w : World} {a : Act} {ch : Chain} {σ : St} (hS : SatS C E w σ a)
    (hR : GR ops R i a) (hG : GG R G i E w a) (hc : gv R ch = true) {ps : List Prop} {av : AV} (h : gvalN tab fs ops.toList o R G ch σ = some (ps, av)) (hp : AllP ps)
    {next : Value → World → Prop} {pan : List PanicEntry → World → Prop}
    (hn : ∀ v E' w', SatM C.B E' σ.mem w' → EKeep E w E' w' [] [] → Rel E' w' av v → next v w') : uponV P next pan ((execOp a.eval o).run P w) := by
  unfold gvalN at h
  split at h
  · rename_i r hr
    cases h
    exact gval_sound hT hF hS hR hG hc hr hp hn
  · split at h
    · split at h
      · exact newV_sound hT hS.mem (gev_rel hS.tm hG hc) h hn
      · cases h
    · cases h

/-- One operation whose value is told. -/
theorem gstep {o : Oper} {ops : Array Oper} {rest : List Oper} {R : List RE} {G : List GE} {i : Nat} {E : Env} {w : World} {a : Act} {ch : Chain} {σ : St} (hS : SatS C E w σ a)
    (hR : GR ops R i a) (hG : GG R G i E w a) (ho : ops[i]? = some o) (hch : gchain R o = some ch) (hf : freshO R G σ.tm o.dst = true) {ps : List Prop} {av : AV} (h : gval tab fs o R G ch σ = some (ps, av))
    (hp : AllP (gateL R ch ps)) {Q : Exit → Act → World → Prop}
    (hn : ∀ E' w' a', SatS C E' w' { σ with tm := putG σ.tm o.dst ch av } a' → GR ops (recR ops.toList i o.dst ch av R) (i + 1) a' → GG (recR ops.toList i o.dst ch av R) (recG o.dst ch av G) (i + 1) E' w' a' → wpList P ops Q rest a' w') :
    wpList P ops Q (o :: rest) a w := by
  have hlt := gchain_lt hR hch
  have hw := wanted_gv hR hch
  have hput : ∀ val E' w', SatM C.B E' σ.mem w' → EKeep E w E' w' [] [] → (gv R ch = true → Rel E' w' av val) → (gv R ch = false → val = undef) → wpList P ops Q rest (a.put o.dst val) w' := by
    intro val E' w' hM hk h1 h2
    have := gates_step hR hG hk hlt ho hf hS.tm h1 h2
    rw [killG_nil] at this
    exact hn E' w' _ ⟨hM, putG_rel hk hS.tm h1, by rw [put_defers]; exact hS.dfr, by simpa [uni] using hS.keep.transU hk⟩ this.1 this.2
  unfold wpList
  cases hc : gv R ch with
  | true =>
    rw [if_pos (by rw [hw, hc])]
    refine .inl ?_
    unfold Oper.wp
    have hp' : AllP ps := by
      unfold gateL at hp
      split at hp
      · exact hp
      · exact allP_impL.1 hp hc
    exact upon_of_uponV (gval_sound hT hF hS hR hG hc h hp' fun v E' w' hM hk hr => hput v E' w' hM hk (fun _ => hr) (fun h => by rw [hc] at h; cases h))
  | false =>
    rw [if_neg (by rw [hw, hc]; simp)]
    exact hput undef E w hS.mem (EKeep.refl E w) (fun h => by rw [hc] at h; cases h) (fun _ => rfl)

theorem gopsD_sound {ops : Array Oper} : ∀ {l : List Oper} {i : Nat} {R : List RE} {G : List GE} {ps ps' : List Prop} {σ σ' : St}, gopsD tab fs ops.toList l i R G ps σ = some (ps', σ') →
    ops.toList.drop i = l → (AllP ps' → AllP ps) ∧ σ'.mem = σ.mem ∧ σ'.k1 = σ.k1 ∧ σ'.k2 = σ.k2 ∧ (∀ t, t ∉ writesR l → lget σ'.tm t = lget σ.tm t) ∧ σ'.tm.length = σ.tm.length ∧
      ∀ {E : Env} {w : World} {a : Act} {Q : Exit → Act → World → Prop}, AllP ps' → SatS C E w σ a → GR ops R i a → GG R G i E w a → (∀ E' w' a', SatS C E' w' σ' a' → Q .normal a' w') → wpList P ops Q l a w
  | [], i, R, G, ps, ps', σ, σ', h, hl => by
    simp only [gopsD, Option.some.injEq, Prod.mk.injEq] at h
    obtain ⟨rfl, rfl⟩ := h
    exact ⟨id, rfl, rfl, rfl, fun _ _ => rfl, rfl, fun {E w a Q} _ hS _ _ hQ => hQ E w a hS⟩
  | o :: rest, i, R, G, ps, ps', σ, σ', h, hl => by
    simp only [gopsD] at h
    cases hch : gchain R o with
    | none => rw [hch] at h; cases h
    | some ch =>
      rw [hch] at h
      simp only at h
      cases hf : freshO R G σ.tm o.dst with
      | false => rw [hf] at h; cases h
      | true =>
        rw [hf] at h
        simp only at h
        cases hv : gval tab fs o R G ch σ with
        | none => rw [hv] at h; cases h
        | some r =>
          obtain ⟨qs, v⟩ := r
          rw [hv] at h
          simp only at h
          have ho : ops[i]? = some o := by
            have : (ops.toList.drop i)[0]? = some o := by rw [hl]; rfl
            simpa [List.getElem?_drop] using this
          have hl' : ops.toList.drop (i + 1) = rest := by
            have := congrArg (List.drop 1) hl
            simpa [List.drop_drop] using this
          obtain ⟨h1, h2, h3, h4, h5, h7, h6⟩ := gopsD_sound h hl'
          rw [app_eq] at h1
          refine ⟨fun hp => (allP_app.1 (h1 hp)).1, h2, h3, h4, fun t ht => ?_, h7.trans putG_len, fun {E w a Q} hp hS hR hG hQ => ?_⟩
          · have ht' : t ∉ writesR rest ∧ (∀ u, o.dst = some u → t ≠ u) := by
              simp only [writesR] at ht
              cases hd : o.dst with
              | none => rw [hd] at ht; exact ⟨ht, fun u hu => by cases hu⟩
              | some u =>
                rw [hd] at ht
                simp only [List.mem_cons, not_or] at ht
                exact ⟨ht.2, fun u' hu => by cases hu; exact ht.1⟩
            rw [h5 t ht'.1]
            have hset : ∀ (l : List AV) (n t : Nat) (b : AV), t ≠ n → lget (lset l n b) t = lget l t := by
              intro l
              induction l with
              | nil => intro n t b _; cases t <;> rfl
              | cons x l ih =>
                intro n t b hne
                cases n with
                | zero => cases t with
                  | zero => omega
                  | succ t => rfl
                | succ n => cases t with
                  | zero => rfl
                  | succ t => simpa [lset, lget] using ih n t b (by omega)
            have hput : ∀ b, lget (putT σ.tm o.dst b) t = lget σ.tm t := by
              intro b
              cases hd : o.dst with
              | none => rfl
              | some u => exact hset _ _ _ _ (ht'.2 u hd)
            show lget (putG σ.tm o.dst ch v) t = lget σ.tm t
            unfold putG
            split <;> exact hput _
          · exact gstep hT hF hS hR hG ho hch hf hv (allP_app.1 (h1 hp)).2 fun E' w' a' hS' hR' hG' => h6 hp hS' hR' hG' hQ

theorem gopsD_region {id : Nat} {ops : Array Oper} {ps : List Prop} {σ σ' : St} (h : gopsD tab fs ops.toList ops.toList 0 [] [] [] σ = some (ps, σ')) :
    σ'.mem = σ.mem ∧ σ'.k1 = σ.k1 ∧ σ'.k2 = σ.k2 ∧ (∀ t, t ∉ writesR ops.toList → lget σ'.tm t = lget σ.tm t) ∧ σ'.tm.length = σ.tm.length ∧
    ∀ {E : Env} {w : World} {a : Act} {Q : Exit → Act → World → Prop}, AllP ps → SatS C E w σ a → (∀ E' w' a', SatS C E' w' σ' a' → Q .normal a' w') → (Code.region id ops false).wp P Q a w := by
  obtain ⟨_, h2, h3, h4, h5, h7, h6⟩ := gopsD_sound hT hF (C := C) h rfl
  exact ⟨h2, h3, h4, h5, h7, fun {E w a Q} hp hS hQ => wp_region_list (h6 hp hS (fun e he => by cases he) (fun g hg => by cases hg) hQ)⟩

/-- Code both ways at once. -/
theorem dwp_sound : ∀ {c : Code} {ps : List Prop} {σ σ' : St}, dwp tab fs c σ = some (ps, σ') →
    σ'.mem = σ.mem ∧ σ'.k1 = σ.k1 ∧ σ'.k2 = σ.k2 ∧ (∀ t, t ∉ writesC c → lget σ'.tm t = lget σ.tm t) ∧ σ'.tm.length = σ.tm.length ∧
    ∀ {E : Env} {w : World} {a : Act} {Q : Exit → Act → World → Prop}, AllP ps → SatS C E w σ a → (∀ E' w' a', SatS C E' w' σ' a' → Q .normal a' w') → c.wp P Q a w
  | .skip, ps, σ, σ', h => by
    simp only [dwp, Option.some.injEq, Prod.mk.injEq] at h
    obtain ⟨rfl, rfl⟩ := h
    exact ⟨rfl, rfl, rfl, fun _ _ => rfl, rfl, fun {E w a Q} _ hS hQ => wp_skip (hQ E w a hS)⟩
  | .region id ops false, ps, σ, σ', h => gopsD_region hT hF (by simpa only [dwp] using h)
  | .region id ops true, ps, σ, σ', h => by simp [dwp] at h
  | .seq x y, ps, σ, σ', h => by
    simp only [dwp] at h
    split at h
    · rename_i p1 σ1 h1
      split at h
      · rename_i p2 σ2 h2
        simp only [Option.some.injEq, Prod.mk.injEq] at h
        obtain ⟨rfl, rfl⟩ := h
        obtain ⟨a1, a2, a3, a4, a6, a5⟩ := dwp_sound h1
        obtain ⟨b1, b2, b3, b4, b6, b5⟩ := dwp_sound h2
        refine ⟨b1.trans a1, b2.trans a2, b3.trans a3, fun t ht => ?_, b6.trans a6, fun {E w a Q} hp hS hQ => ?_⟩
        · simp only [writesC, app_eq, List.mem_append, not_or] at ht
          rw [b4 t ht.2, a4 t ht.1]
        · rw [app_eq, allP_app] at hp
          refine wp_seq (wp_mono (Q := fun e a' w' => e = .normal ∧ ∃ E', SatS C E' w' σ1 a') (a5 hp.1 hS fun E' w' a' hS' => ⟨rfl, E', hS'⟩) fun e a' w' he => ?_)
          obtain ⟨rfl, E', hS'⟩ := he
          exact b5 hp.2 hS' hQ
      · cases h
    · cases h
  | .cond c x y, ps, σ, σ', h => by
    simp only [dwp] at h
    split at h
    · rename_i b hb
      split at h
      · rename_i p1 σ1 p2 σ2 h1 h2
        simp only [Option.some.injEq, Prod.mk.injEq] at h
        obtain ⟨rfl, rfl⟩ := h
        obtain ⟨a1, a2, a3, a4, a6, a5⟩ := dwp_sound h1
        obtain ⟨b1, b2, b3, b4, b6, b5⟩ := dwp_sound h2
        have hsame : ∀ t, 0 + t ∉ app (writesC x) (writesC y) → lget σ1.tm t = lget σ2.tm t := fun t ht => by
          simp only [app_eq, List.mem_append, not_or, Nat.zero_add] at ht
          rw [a4 t ht.1, b4 t ht.2]
        have hlen : σ1.tm.length = σ2.tm.length := a6.trans b6.symm
        refine ⟨a1, a2, a3, fun t ht => ?_, (selTm_length hlen).trans a6, fun {E w a Q} hp hS hQ => ?_⟩
        · have ht' : 0 + t ∉ app (writesC x) (writesC y) := by rw [Nat.zero_add]; exact ht
          refine (selTm_get hlen ht').trans (a4 t ?_)
          simp only [writesC, app_eq, List.mem_append, not_or] at ht
          exact ht.1
        · rw [app_eq, allP_app, allP_impL, allP_impL] at hp
          have hr := ev_rel hS.tm c
          rw [hb] at hr
          refine wp_cond hr ?_
          cases b with
          | true =>
            refine a5 (hp.1 rfl) hS fun E' w' a' hS' => hQ E' w' a' ⟨hS'.mem, selTm_rel hlen hsame (fun _ => hS'.tm) (fun h => by cases h), hS'.dfr, hS'.keep⟩
          | false =>
            refine b5 (hp.2 rfl) hS fun E' w' a' hS' => hQ E' w' a' ⟨by show SatM C.B E' σ1.mem w'; rw [a1, ← b1]; exact hS'.mem, selTm_rel hlen hsame (fun h => by cases h) (fun _ => hS'.tm), hS'.dfr, by show EKeep _ _ _ _ σ1.k1 σ1.k2; rw [a2, a3, ← b2, ← b3]; exact hS'.keep⟩
      · cases h
    · cases h
  | .label _, ps, σ, σ', h | .ret, ps, σ, σ', h | .exit _, ps, σ, σ', h | .block _ _, ps, σ, σ', h | .loop _, ps, σ, σ', h | .rangeFunc .., ps, σ, σ', h | .scope _, ps, σ, σ', h | .goto _, ps, σ, σ', h | .refuse _, ps, σ, σ', h => by simp [dwp] at h
end

section
variable {P : Program} {tab : Tab} {fs : FS} {call : ACall} (hT : TabOK P tab) (hF : FSOK P fs) (hC : CallOK P call) {C : Ctx}
include hT hF hC

theorem gops_sound {ops : Array Oper} {Q : AExit → St → Prop} : ∀ {l : List Oper} {i : Nat} {R : List RE} {G : List GE} {σ : St} {E : Env} {w : World} {a : Act}, gops tab fs call ops.toList Q l i R G σ →
    ops.toList.drop i = l → SatS C E w σ a → GR ops R i a → GG R G i E w a → wpList P ops (PQ C Q) l a w
  | [], i, R, G, σ, E, w, a, h, hl, hS, hR, hG => ⟨_, _, E, h, hS, rfl⟩
  | o :: rest, i, R, G, σ, E, w, a, h, hl, hS, hR, hG => by
    simp only [gops] at h
    have ho : ops[i]? = some o := by
      have : (ops.toList.drop i)[0]? = some o := by rw [hl]; rfl
      simpa [List.getElem?_drop] using this
    have hl' : ops.toList.drop (i + 1) = rest := by
      have := congrArg (List.drop 1) hl
      simpa [List.drop_drop] using this
    split at h
    · exact h.elim
    · rename_i ch hch
      split at h
      · exact h.elim
      · rename_i hf
        have hlt := gchain_lt hR hch
        have hw := wanted_gv hR hch
        split at h
        · rename_i qs v hv
          have h := needL_iff.1 h
          exact gstep hT hF hS hR hG ho hch hf hv h.1 fun E' w' a' hS' hR' hG' => gops_sound h.2 hl' hS' hR' hG'
        · rcases splitG_sound h with ⟨hx, h⟩ | ⟨⟨x, hx, e, he, hb⟩, h⟩
          · have hc : gv R ch = true := gv_iff.2 fun x hm => hx x (revC_mem.2 (.inl hm))
            unfold wpList
            rw [if_pos (by rw [hw, hc])]
            refine .inl ?_
            unfold Oper.wp
            refine upon_of_uponV (xop_sound hT hC hS.mem (gev_rel hS.tm hG hc) h fun out m' k1 k2 E' w' hK hM hE => ?_)
            have htm := killF_rel hE hS.tm
            have hkeep : EKeep C.E0 C.w0 E' w' (uni k1 σ.k1) (uni k2 σ.k2) := hS.keep.transU hE
            cases out with
            | ret av =>
              intro v hv
              have hg := gates_step (ch := []) hR hG hE (fun x hx => by cases hx) ho hf hS.tm (fun _ => hv) (fun h => by simp [gv] at h)
              have hrg : recG o.dst [] av (killG k1 k2 G) = killG k1 k2 G := by unfold recG; cases o.dst <;> rfl
              rw [hrg] at hg
              exact gops_sound hK hl' ⟨hM, put_rel htm o.dst hv, by rw [put_defers]; exact hS.dfr, hkeep⟩ hg.1 hg.2
            | panic av =>
              intro v hv
              exact ⟨_, _, E', hK, ⟨hM, htm, hS.dfr, hkeep⟩, v, rfl, hv⟩
          · have hc : gv R ch = false := by
              cases hg : gv R ch with
              | false => rfl
              | true =>
                rw [gv_iff] at hg
                obtain ⟨e', h1, h2⟩ := hg x ((revC_mem.1 hx).resolve_right (by simp))
                rw [he] at h1; cases h1
                rw [hb] at h2; cases h2
            unfold wpList
            rw [if_neg (by rw [hw, hc]; simp)]
            have hg := gates_step (v := .bad) (val := undef) hR hG (EKeep.refl E w) hlt ho hf hS.tm (fun _ => by simp [Rel]) (fun _ => rfl)
            rw [killG_nil] at hg
            have hr : recR ops.toList i o.dst ch .bad R = R := by unfold recR; cases o.dst <;> rfl
            rw [hr] at hg
            refine gops_sound (σ := { σ with tm := putT σ.tm o.dst .und }) h hl' ⟨hS.mem, put_rel (av := .und) (v := undef) hS.tm o.dst rfl, by rw [put_defers]; exact hS.dfr, hS.keep⟩ hg.1 (fun g hgm => hg.2 g ?_)
            unfold recG
            split
            · exact List.mem_cons_of_mem _ hgm
            · exact hgm
end

/-! ### Code -/

/-- What is said of a loop is so. -/
def SummOK (P : Program) (c : Code) (S : Summ) : Prop :=
  ∀ Q σ, S σ Q → ∀ C E w a, SatS C E w σ a → (Code.loop c).wp P (PQ C Q) a w

def LoopsOK (P : Program) (L : Loops) (c : Code) : Prop := ∀ d ∈ loopsOf c, ∀ k S, firstRegion d = some k → llook L k = some S → SummOK P d S

/-- Regions that draw their order are looked at elsewhere. -/
def DrawOK (P : Program) (tab : Tab) (fs : FS) (call : ACall) (C : Ctx) : Prop :=
  ∀ id (ops : Array Oper) Q σ E w a, adraw tab fs call ops.toList Q σ → SatS C E w σ a → (Code.region id ops true).wp P (PQ C Q) a w

section
variable {P : Program} {tab : Tab} {fs : FS} {call : ACall} (hT : TabOK P tab) (hFS : FSOK P fs) (hC : CallOK P call) {L : Loops} {fuel : Nat} {C : Ctx} (hD : DrawOK P tab fs call C)
include hT hFS hC hD

theorem awp_sound : ∀ {c : Code} {Q : AExit → St → Prop} {σ : St} {E : Env} {w : World} {a : Act}, LoopsOK P L c → awp tab fs call L fuel c Q σ → SatS C E w σ a → c.wp P (PQ C Q) a w
  | .skip, Q, σ, E, w, a, _, h, hS => wp_skip ⟨_, _, E, h, hS, rfl⟩
  | .label _, Q, σ, E, w, a, _, h, hS => wp_label ⟨_, _, E, h, hS, rfl⟩
  | .ret, Q, σ, E, w, a, _, h, hS => wp_ret ⟨_, _, E, h, hS, rfl⟩
  | .exit id, Q, σ, E, w, a, _, h, hS => wp_exit ⟨_, _, E, h, hS, rfl⟩
  | .seq x y, Q, σ, E, w, a, hL, h, hS => by
    simp only [awp] at h
    have hLx : LoopsOK P L x := fun d hd => hL d (List.mem_append.2 (.inl hd))
    have hLy : LoopsOK P L y := fun d hd => hL d (List.mem_append.2 (.inr hd))
    refine wp_seq (wp_mono (awp_sound hLx h hS) fun e a' w' hq => ?_)
    obtain ⟨ae, σ', E', hQ, hS', hE⟩ := hq
    cases ae with
    | normal => cases hE; exact awp_sound hLy hQ hS'
    | exit id => cases hE; exact ⟨_, σ', E', hQ, hS', rfl⟩
    | ret => cases hE; exact ⟨_, σ', E', hQ, hS', rfl⟩
    | panic av => obtain ⟨v, rfl, hv⟩ := hE; exact ⟨_, σ', E', hQ, hS', v, rfl, hv⟩
  | .cond c x y, Q, σ, E, w, a, hL, h, hS => by
    simp only [awp] at h
    have hLx : LoopsOK P L x := fun d hd => hL d (List.mem_append.2 (.inl hd))
    have hLy : LoopsOK P L y := fun d hd => hL d (List.mem_append.2 (.inr hd))
    split at h
    · rename_i b hb
      have hr := ev_rel hS.tm c
      rw [hb] at hr
      split at h
      · rename_i ps σ' hd
        have h := needL_iff.1 h
        exact (dwp_sound hT hFS (C := C) hd).2.2.2.2.2 h.1 hS fun E' w' a' hS' => ⟨_, _, E', h.2, hS', rfl⟩
      refine wp_cond hr ?_
      cases b with
      | true => exact awp_sound hLx (by simpa [ifB] using h) hS
      | false => exact awp_sound hLy (by simpa [ifB] using h) hS
    · exact h.elim
  | .block id c, Q, σ, E, w, a, hL, h, hS => by
    simp only [awp] at h
    refine wp_block (wp_mono (awp_sound hL h hS) fun e a' w' hq => ?_)
    obtain ⟨ae, σ', E', hQ, hS', hE⟩ := hq
    cases ae with
    | normal => cases hE; exact ⟨_, σ', E', hQ, hS', rfl⟩
    | exit i =>
      cases hE
      simp only [Exit.inBlock]
      simp only at hQ
      split at hQ
      · rename_i hb
        rw [if_pos (beq_true hb)]
        exact ⟨_, σ', E', hQ, hS', rfl⟩
      · rename_i hb
        rw [if_neg (by intro e; subst e; simp at hb)]
        exact ⟨_, σ', E', hQ, hS', rfl⟩
    | ret => cases hE; exact ⟨_, σ', E', hQ, hS', rfl⟩
    | panic av => obtain ⟨v, rfl, hv⟩ := hE; exact ⟨_, σ', E', hQ, hS', v, rfl, hv⟩
  | .loop c, Q, σ, E, w, a, hL, h, hS => by
    simp only [awp] at h
    have hLc : LoopsOK P L c := fun d hd => hL d (List.mem_cons_of_mem _ hd)
    have unroll : ∀ (n : Nat) (σ : St) (E : Env) (w : World) (a : Act), loopU (awp tab fs call L fuel c) Q n σ → SatS C E w σ a → Code.rounds P c (PQ C Q) n a w := by
      intro n
      induction n with
      | zero => intro σ E w a h; exact h.elim
      | succ n ih =>
        intro σ E w a h hS
        simp only [loopU] at h
        rw [rounds_succ]
        refine wp_mono (awp_sound hLc h hS) fun e a' w' hq => ?_
        obtain ⟨ae, σ', E', hQ, hS', hE⟩ := hq
        cases ae with
        | normal => cases hE; exact ih σ' E' w' a' hQ hS'
        | exit id => cases hE; exact ⟨_, σ', E', hQ, hS', rfl⟩
        | ret => cases hE; exact ⟨_, σ', E', hQ, hS', rfl⟩
        | panic av => obtain ⟨v, rfl, hv⟩ := hE; exact ⟨_, σ', E', hQ, hS', v, rfl, hv⟩
    split at h
    · rename_i k hk
      split at h
      · rename_i S hl
        exact hL c (List.mem_cons_self ..) k S hk hl Q σ h C E w a hS
      · exact wp_loop_rounds fuel (unroll fuel σ E w a h hS)
    · exact wp_loop_rounds fuel (unroll fuel σ E w a h hS)
  | .region id ops d, Q, σ, E, w, a, hL, h, hS => by
    simp only [awp, forceS_eq] at h
    split at h
    · split at h
      · rename_i ps σ' hd
        have h := needL_iff.1 h
        exact (gopsD_region (id := id) hT hFS (C := C) hd).2.2.2.2.2 h.1 hS fun E' w' a' hS' => ⟨_, _, E', h.2, hS', rfl⟩
      · exact wp_region_list (gops_sound hT hFS hC h rfl hS (fun e he => by cases he) (fun g hg => by cases hg))
    · exact hD id ops Q σ E w a h hS
  | .rangeFunc .., Q, σ, E, w, a, _, h, hS => h.elim
  | .scope _, Q, σ, E, w, a, _, h, hS => h.elim
  | .goto _, Q, σ, E, w, a, _, h, hS => h.elim
  | .refuse _, Q, σ, E, w, a, _, h, hS => h.elim
end

/-! ### Calls -/

theorem resQ_rel {P : Program} {tab : Tab} (hT : TabOK P tab) {B : Base} {E : Env} {w : World} {m : List Blk} {tm : List AV} {tmps : Array Value} (hM : SatM B E m w) (h : RelL E w tm tmps.toList) :
    ∀ {l : List ResultVar} {K : List AV → Prop}, resQ tab tm m l K → ∃ (vs : List Value) (as : List AV), (l.mapM (m := Sem) fun | .tmp t => pure (tmps.getD t undef) | .cell a t => do loadVar t (← asAddr (tmps.getD a undef))).run P w = .ok vs w ∧ RelL E w as vs ∧ K as
  | [], K, hK => ⟨[], [], rfl, rfl, hK⟩
  | .tmp t :: l, K, hK => by
    obtain ⟨vs, as, h1, h2, h3⟩ := resQ_rel hT hM h (l := l) hK
    refine ⟨tmps.getD t undef :: vs, lget tm t :: as, ?_, ⟨_, vs, rfl, ?_, h2⟩, h3⟩
    · rw [List.mapM_cons]
      simp only [Sem.run_bind, Sem.run_pure, Result.andThen_ok, h1]
    · have := h.get t
      simpa [List.getD, Array.getD_eq_getD_getElem?] using this
  | .cell a t :: l, K, hK => by
    simp only [resQ] at hK
    have hx : Rel E w (lget tm a) (tmps.getD a undef) := by
      have := h.get a
      simpa [List.getD, Array.getD_eq_getD_getElem?] using this
    obtain ⟨r, av, h4, h5, h6⟩ := loadA_sound hT hM hx hK
    obtain ⟨vs, as, h1, h2, h3⟩ := resQ_rel hT hM h (l := l) h6
    refine ⟨r :: vs, av :: as, ?_, ⟨_, vs, rfl, h5, h2⟩, h3⟩
    rw [List.mapM_cons]
    have h7 : (do loadVar t (← asAddr (tmps.getD a undef)) : Sem Value).run P w = .ok r w := by
      rw [← h4]
      generalize tmps.getD a undef = v at *
      cases v with
      | pointer o =>
        cases o with
        | some a => simp [Instr.loadAt, Instr.sureAddr, asAddr]
        | none => simp [Instr.loadAt, Instr.sureAddr] at h4
      | _ => simp [Instr.loadAt, Instr.sureAddr] at h4
    simp only [Sem.run_bind, Sem.run_pure, Result.andThen_ok, h1] at h7 ⊢
    rw [h7]
    simp only [Result.andThen_ok, h1]

/-! What a call has made is left behind. -/
def Env.trim (E E0 : Env) (n : Nat) : Env := { E with bl := fun i => if i < n then E.bl i else none, sl := fun i => if i < n then E.sl i else E0.sl i }
theorem Env.trim_ok {E E0 : Env} {n : Nat} {src : List Nat} {b : Nat} (h : E.ok src b) : (E.trim E0 n).ok src b := by
  refine ⟨h.1, fun i hi => h.2 i ?_⟩
  simp only [Env.trim] at hi
  split at hi
  · exact hi
  · cases hi
theorem Env.trim_bl {E E0 : Env} {n i b : Nat} (hi : i < n) (h : E.bl i = some b) : (E.trim E0 n).bl i = some b := by simp [Env.trim, hi, h]
mutual
theorem Rel.trim {E E0 : Env} {w : World} {n : Nat} : ∀ {a : AV} {v : Value}, refsV n a = true → Rel E w a v → Rel (E.trim E0 n) w a v
  | .bad, v, _, h => by simp [Rel]
  | .und, v, _, h => by simpa [Rel] using h
  | .int _ _, v, _, h => by simpa [Rel] using h
  | .bool _, v, _, h => by simpa [Rel] using h
  | .str _, v, _, h => by simpa [Rel] using h
  | .nilp, v, _, h => by simpa [Rel] using h
  | .nsl _, v, _, h => by simpa [Rel] using h
  | .nilfn, v, _, h => by simpa [Rel] using h
  | .nilif, v, _, h => by simpa [Rel] using h
  | .view src t xs, v, _, h => by
    simp only [Rel] at h ⊢
    exact DRep.keep (t := .list t) (fun b hb _ => ⟨Env.trim_ok hb, fun _ _ h => h⟩) h
  | .vptr src cells, v, hr, h => by
    simp only [Rel, refsV] at h hr ⊢
    obtain ⟨b, off, vs, rfl, hok, hc, hl, hne⟩ := h
    exact ⟨b, off, vs, rfl, Env.trim_ok hok, hc, RelL.trim hr hl, hne⟩
  | .ptr i off, v, hr, h => by
    simp only [Rel, refsV] at h hr ⊢
    obtain ⟨b, hb, rfl⟩ := h
    exact ⟨b, Env.trim_bl (blt_lt hr) hb, rfl⟩
  | .vsl i off len cap, v, hr, h => by
    simp only [Rel, refsV] at h hr ⊢
    obtain ⟨b, hb, rfl⟩ := h
    exact ⟨b, Env.trim_bl (blt_lt hr) hb, rfl⟩
  | .own i, v, hr, h => by
    simp only [Rel, refsV] at h hr ⊢
    simpa [Env.trim, blt_lt hr] using h
  | .sub i n, v, hr, h => by
    simp only [Rel, refsV] at h hr ⊢
    simpa [Env.trim, blt_lt hr] using h
  | .rptr i t idx off, v, hr, h => by
    simp only [Rel, refsV] at h hr ⊢
    obtain ⟨b, hb, rfl⟩ := h
    exact ⟨b, Env.trim_bl (blt_lt hr) hb, rfl⟩
  | .agg l, v, hr, h => by
    simp only [Rel, refsV] at h hr ⊢
    obtain ⟨vs, rfl, h⟩ := h
    exact ⟨vs, rfl, RelL.trim hr h⟩
  | .tup l, v, hr, h => by
    simp only [Rel, refsV] at h hr ⊢
    obtain ⟨vs, rfl, h⟩ := h
    exact ⟨vs, rfl, RelL.trim hr h⟩
  | .fn f l m, v, hr, h => by
    simp only [Rel, refsV] at h hr ⊢
    have hr := andb_split hr
    obtain ⟨a, b, rfl, h1, h2⟩ := h
    exact ⟨a, b, rfl, RelL.trim hr.1 h1, RelL.trim hr.2 h2⟩
  | .iface t x, v, hr, h => by
    simp only [Rel, refsV] at h hr ⊢
    obtain ⟨u, rfl, h⟩ := h
    exact ⟨u, rfl, Rel.trim hr h⟩
theorem RelL.trim {E E0 : Env} {w : World} {n : Nat} : ∀ {l : List AV} {vs : List Value}, refsL n l = true → RelL E w l vs → RelL (E.trim E0 n) w l vs
  | [], vs, _, h => by simpa [RelL] using h
  | a :: l, vs, hr, h => by
    simp only [RelL, refsL] at h hr ⊢
    have hr := andb_split hr
    obtain ⟨v, us, rfl, h1, h⟩ := h
    exact ⟨v, us, rfl, Rel.trim hr.1 h1, RelL.trim hr.2 h⟩
end
theorem mtake_eq : ∀ (n : Nat) (m : List Blk), mtake n m = m.take n
  | 0, m => by simp [mtake]
  | n + 1, [] => by simp [mtake]
  | n + 1, a :: m => by simp [mtake, mtake_eq n m]
theorem refsM_get {n : Nat} : ∀ {m : List Blk} {i : Nat} {l : List AV}, refsM n m = true → m[i]? = some (.var l) → refsL n l = true
  | [], i, l, h, hi => by simp at hi
  | b :: m, i, l, h, hi => by
    cases i with
    | zero =>
      simp only [List.getElem?_cons_zero, Option.some.injEq] at hi
      subst hi
      simp only [refsM] at h
      exact (andb_split h).1
    | succ i =>
      refine refsM_get (m := m) (i := i) ?_ (by simpa using hi)
      cases b with
      | var l => simp only [refsM] at h; exact (andb_split h).2
      | dead => simpa [refsM] using h
      | row _ _ _ _ => simpa [refsM] using h
theorem mem_filtN {n i : Nat} : ∀ {l : List Nat}, i ∈ l → i < n → i ∈ filtN n l
  | a :: l, hi, hn => by
    simp only [filtN]
    cases hb : Nat.blt a n with
    | true =>
      cases hi with
      | head => simp
      | tail _ hi => exact List.mem_cons_of_mem _ (mem_filtN hi hn)
    | false =>
      cases hi with
      | head => exact absurd hn (by intro h; rw [show Nat.blt i n = true from Nat.ble_eq_true_of_le h] at hb; cases hb)
      | tail _ hi => exact mem_filtN hi hn

theorem trim_sound {B : Base} {E E' : Env} {m m' : List Blk} {w w' : World} {out : AOut} {e : Ending} {k1 k2 : List Nat} {Q : AK} (hM0 : SatM B E m w) (hQ : trimK (mlen m) Q out m' k1 k2)
    (hM : SatM B E' m' w') (hk : EKeep E w E' w' k1 k2) (ho : OutR E' w' out e) :
    ∃ out m'' k1 k2 E'', Q out m'' k1 k2 ∧ SatM B E'' m'' w' ∧ EKeep E w E'' w' k1 k2 ∧ OutR E'' w' out e := by
  unfold trimK at hQ
  rw [mlen_eq] at hQ
  split at hQ
  · rename_i hr
    have hr := andb_split hr
    have hlt : ∀ i b, E.bl i = some b → i < m.length := fun i b hb => by
      by_cases hi : i < m.length
      · exact hi
      · rw [hM0.out i (by omega)] at hb; cases hb
    refine ⟨out, _, _, _, E'.trim E m.length, hQ, ?_, ?_, ?_⟩
    · refine ⟨fun i bk hb => ?_, fun i hi => ?_, fun i j b h1 h2 => ?_, fun i b h => ?_, hM.os, hM.tape, hM.output, hM.size, hM.frame, hM.T, hM.FT⟩
      · have hb0 := hb
        rw [mtake_eq, List.getElem?_take] at hb
        split at hb
        · rename_i hi
          have := hM.blk i bk hb
          cases bk with
          | dead => trivial
          | var l =>
            obtain ⟨b, vs, T, h1, h2, h3⟩ := this
            exact ⟨b, vs, T, Env.trim_bl hi h1, h2, h3.trim (refsM_get hr.2 hb0)⟩
          | row e t xs src =>
            obtain ⟨hl, cells, hown, h1, h2⟩ := this
            exact ⟨hl, cells, by simpa [Env.trim, hi] using hown, by simp [Env.trim, hi, h1], h2.keep fun b hb _ => ⟨Env.trim_ok hb, fun _ _ h => h⟩⟩
        · cases hb
      · simp only [Env.trim]
        split
        · rename_i hi'
          rw [mtake_eq, List.length_take] at hi
          exact hM.out i (by omega)
        · rfl
      · have g : ∀ i b, (E'.trim E m.length).bl i = some b → E'.bl i = some b := fun i b h => by
          simp only [Env.trim] at h; split at h
          · exact h
          · cases h
        exact hM.inj i j b (g i b h1) (g j b h2)
      · simp only [Env.trim] at h
        split at h
        · exact hM.old i b h
        · cases h
    · refine ⟨fun i hi b hb => Env.trim_bl (hlt i b hb) (hk.1 i (fun hc => hi (mem_filtN hc (hlt i b hb))) b hb), fun i hi => ?_, fun src hs b hok hex => ?_⟩
      · simp only [Env.trim]
        split
        · rename_i hlt'
          exact hk.2.1 i fun hc => hi (mem_filtN hc hlt')
        · rfl
      · have := hk.2.2 (src.filter (· < m.length)) (fun i hi hc => by
          have := List.mem_filter.1 hi
          exact hs i this.1 (mem_filtN hc (by simpa using this.2))) b ⟨hok.1, fun i hi => List.mem_filter.2 ⟨hok.2 i hi, by simpa using hlt i b hi⟩⟩ hex
        refine ⟨Env.trim_ok ⟨this.1.1, fun i hi => (List.mem_filter.1 (this.1.2 i hi)).1⟩, this.2⟩
    · cases out with
      | ret av => obtain ⟨v, rfl, hv⟩ := ho; exact ⟨v, rfl, hv.trim hr.1⟩
      | panic av => obtain ⟨v, rfl, hv⟩ := ho; exact ⟨v, rfl, hv.trim hr.1⟩
  · exact ⟨out, m', k1, k2, E', hQ, hM, hk, ho⟩

/-- What is asked of a function whose text is walked. -/
structure FnOK (P : Program) (f : FuncId) (fn : Func) (L : Loops) : Prop where
  func : P.funcs[f]? = some fn
  step : ∀ vs w, (callFunc f vs).run P w = .ok (.enter f vs) w
  loops : ∀ c, fn.body = some c → LoopsOK P L c

theorem results_rel {P : Program} {tab : Tab} (hT : TabOK P tab) {B : Base} {fn : Func} {E : Env} {w : World} {m : List Blk} {tm : List AV} {tmps : Array Value} (hM : SatM B E m w) (h : RelL E w tm tmps.toList)
    {K : List AV → Prop} (hK : resQ tab tm m fn.results.toList K) :
    ∃ v as, (results fn tmps).run P w = .ok v w ∧ Rel E w (oneA as) v ∧ K as := by
  obtain ⟨vs, as, h1, h2, h3⟩ := resQ_rel hT hM h hK
  have hA : (fn.results.mapM (m := Sem) fun | .tmp t => pure (tmps.getD t undef) | .cell a t => do loadVar t (← asAddr (tmps.getD a undef))).run P w = .ok vs.toArray w := by
    conv => lhs; rw [show fn.results = fn.results.toList.toArray by simp]
    rw [List.mapM_toArray]
    simp only [Sem.run_map, h1, Result.andThen_ok]
  unfold results
  simp only [Sem.run_bind]
  have e : (fn.results.mapM (m := Sem) fun | .tmp t => pure (tmps.getD t undef) | .cell a t => do loadVar t (← asAddr (tmps.getD a undef))).run P w = .ok vs.toArray w := hA
  refine ⟨if h : vs.toArray.size = 1 then vs.toArray[0] else .tuple vs.toArray, as, ?_, ?_, h3⟩
  · first
      | (rw [e]; rfl)
      | (erw [e]; rfl)
  · cases hr : as with
    | nil =>
      rw [hr] at h2; simp only [RelL] at h2; subst h2
      exact ⟨[], rfl, rfl⟩
    | cons a l =>
      rw [hr] at h2
      obtain ⟨v, us, rfl, h3, h4⟩ := h2
      cases l with
      | nil => simp only [RelL] at h4; subst h4; exact h3
      | cons b l =>
        obtain ⟨v', us', rfl, h5, h6⟩ := h4
        exact ⟨_, rfl, v, _, rfl, h3, v', us', rfl, h5, h6⟩

def SpecsOK (P : Program) (specs : Specs) : Prop := ∀ f S, slook specs f = some S → SpecOK P f S
def FnsOK (P : Program) (fns : Fns) : Prop := ∀ f fn L, flook fns f = some (fn, L) → FnOK P f fn L

theorem specsOK_nil {P : Program} : SpecsOK P [] := by intro f S h; simp [slook] at h
theorem specsOK_cons {P : Program} {f : Nat} {S : List AV → List Blk → AK → Prop} {l : Specs} (h : SpecOK P f S) (hl : SpecsOK P l) : SpecsOK P ((f, S) :: l) := by
  intro g T hg
  simp only [slook] at hg
  split at hg
  · rename_i hb; have := beq_true hb; subst this; cases hg; exact h
  · exact hl g T hg
theorem fnsOK_nil {P : Program} : FnsOK P [] := by intro f fn L h; simp [flook] at h
theorem fnsOK_cons {P : Program} {f : Nat} {fn : Func} {L : Loops} {l : Fns} (h : FnOK P f fn L) (hl : FnsOK P l) : FnsOK P ((f, fn, L) :: l) := by
  intro g gn M hg
  simp only [flook] at hg
  split at hg
  · rename_i hb; have := beq_true hb; subst this; cases hg; exact h
  · exact hl g gn M hg
theorem loopsOK_nil {P : Program} {c : Code} : LoopsOK P [] c := by intro d _ k S _ h; simp [llook] at h

theorem rep_rel {E : Env} {w : World} : ∀ n, RelL E w (rep .bad n) (List.replicate n undef) := fun n => RelL.rep (a := .bad) (v := undef) trivial n

section
variable {P : Program} {tab : Tab} {fs : FS} {specs : Specs} {fns : Fns} {fuel : Nat} (hT : TabOK P tab) (hFS : FSOK P fs) (hSp : SpecsOK P specs) (hF : FnsOK P fns)
  (hD : ∀ {call : ACall}, CallOK P call → ∀ C, DrawOK P tab fs call C)
include hT hFS hSp hF hD

/-- **Calls.** -/
theorem acall_ok : ∀ n, CallOK P (acall tab fs specs fns fuel n)
  | 0 => ⟨fun h => h.elim, fun h => h.elim⟩
  | n + 1 => by
    have ih := acall_ok n
    refine ⟨fun {f args m K} h vs w => ?_, fun {f args m K} h B E w vs hM hR => ?_⟩
    · simp only [acall] at h
      split at h
      · rename_i S hs; exact (hSp f S hs).step vs w
      · rename_i ps v hs hF'
        unfold toldV at hF'
        split at hF'
        · cases hF'
        rename_i hkb
        split at hF'
        · rename_i F hF; exact ((hFS f F hF).1 (not_ble hkb)).step vs w
        · cases hF'
      · split at h
        · rename_i fn L hf; exact (hF f fn L hf).step vs w
        · exact h.elim
    · simp only [acall] at h
      split at h
      · rename_i S hs; exact (hSp f S hs).calls h B E w vs hM hR
      · rename_i ps v hs hF'
        unfold toldV at hF'
        split at hF'
        · cases hF'
        rename_i hkb
        split at hF'
        · rename_i F hF
          exact ((hFS f F hF).1 (not_ble hkb)).calls (show fspecS F args m K by unfold fspecS; rw [hF']; exact h) B E w vs hM hR
        · cases hF'
      · split at h
        · rename_i fn L hf
          have hok := hF f fn L hf
          split at h
          · rename_i c hc
            refine calls_of_wp hok.func hc ?_
            let C : Ctx := ⟨B, E, w⟩
            have hlen : vs.toArray.size = llen args := by rw [llen_eq, ← hR.length]; simp
            have hS : SatS C E w (enterS fn args m) { tmps := vs.toArray ++ Array.replicate (fn.ntmps - vs.toArray.size) undef, defers := [] } := by
              refine ⟨hM, ?_, rfl, EKeep.refl E w⟩
              simp only [enterS, Array.toList_append, Array.toList_replicate, hlen]
              exact hR.app (rep_rel _)
            refine wp_mono (awp_sound hT hFS ih (hD ih C) (hok.loops c hc) h hS) fun e a' w' hq => ?_
            obtain ⟨ae, σ', E', hQ, hS', hE⟩ := hq
            have fin : ∀ {ae}, ae = AExit.normal ∨ ae = .ret → bodyQ tab fn (trimK (mlen m) K) ae σ' → a'.defers = [] ∧ ∃ v, (results fn a'.tmps).run P w' = .ok v w' ∧
                ∃ out m' k1 k2 E', K out m' k1 k2 ∧ SatM B E' m' w' ∧ EKeep E w E' w' k1 k2 ∧ OutR E' w' out (.returned v) := by
              intro ae hae hQ
              have hQ' : resQ tab σ'.tm σ'.mem fn.results.toList fun l => trimK (mlen m) K (.ret (oneA l)) σ'.mem σ'.k1 σ'.k2 := by rcases hae with rfl | rfl <;> exact hQ
              obtain ⟨v, as, h1, h2, h3⟩ := results_rel hT hS'.mem hS'.tm hQ'
              exact ⟨hS'.dfr, v, h1, trim_sound hM h3 hS'.mem hS'.keep ⟨v, rfl, h2⟩⟩
            cases ae with
            | normal => cases hE; exact fin (.inl rfl) hQ
            | ret => cases hE; exact fin (.inr rfl) hQ
            | exit id => exact hQ.elim
            | panic av =>
              obtain ⟨v, rfl, hv⟩ := hE
              exact ⟨hS'.dfr, trim_sound hM hQ hS'.mem hS'.keep ⟨v, rfl, hv⟩⟩
          · exact h.elim
        · exact h.elim
end

end Go.Proofs.Ytkdemkkepepbdaa.Sx
