/- The framework: regions, code, and calls: what the evaluator says is so. -/
import Derived.Test.YtbgifokhlbaapaaSx6
import Derived.LoopN
namespace Go.Proofs.Ytbgifokhlbaapaa.Sx
set_option linter.unusedSectionVars false
set_option linter.unusedVariables false
set_option linter.unusedSimpArgs false
open Go.RowKit

/-- What is fixed while one function runs. -/
structure Ctx where
  B : Base
  E0 : Env
  w0 : World

structure SatS (C : Ctx) (E : Env) (w : World) (σ : St) (a : Act) : Prop where
  mem : SatM C.B E σ.mem w
  tm : RelL E w σ.tm a.tmps.toList
  dfr : a.defers = []
  keep : EKeep C.E0 C.w0 E w σ.k1 σ.k2

def ExR (E : Env) (w : World) : AExit → Exit → Prop
  | .normal, e => e = .normal
  | .exit id, e => e = .exit id
  | .ret, e => e = .ret
  | .panic av, e => ∃ v, e = .panic [{ v := v, recovered := false }] ∧ Rel E w av v

def PQ (C : Ctx) (Q : AExit → St → Prop) : Exit → Act → World → Prop :=
  fun e a w => ∃ ae σ E, Q ae σ ∧ SatS C E w σ a ∧ ExR E w ae e

theorem ev_rel {E : Env} {w : World} {tm : List AV} {a : Act} (h : RelL E w tm a.tmps.toList) (x : Operand) : Rel E w (ev tm x) (a.eval x) := by
  cases x with
  | tmp t =>
    have := h.get t
    simpa [ev, Act.eval, List.getD, Array.getD_eq_getD_getElem?] using this
  | const v => exact rel_ofV E w v
  | global g => exact trivial
  | func f => exact ⟨[], [], rfl, rfl, rfl⟩

theorem put_rel {E : Env} {w : World} {tm : List AV} {a : Act} (h : RelL E w tm a.tmps.toList) (d : Option Tmp) {av : AV} {v : Value} (hv : Rel E w av v) :
    RelL E w (putT tm d av) (a.put d v).tmps.toList := by
  cases d with
  | none => exact h
  | some t => simpa [putT, Act.put] using h.set t hv

theorem put_defers (a : Act) (d : Option Tmp) (v : Value) : (a.put d v).defers = a.defers := by cases d <;> rfl

theorem killF_rel {E E' : Env} {w w' : World} {k1 k2 : List Nat} (k : EKeep E w E' w' k1 k2) {tm : List AV} {vs : List Value} (h : RelL E w tm vs) : RelL E' w' (killF k1 k2 tm) vs := by
  unfold killF
  split
  · have := h.keep k; rwa [killL_nil] at this
  · exact h.keep k

theorem lset_rel {E : Env} {w : World} {tm : List AV} {a : Act} (h : RelL E w tm a.tmps.toList) {t : Nat} {b c : Bool} (hl : lget tm t = .bool b) (hc : b = c) :
    RelL E w (lset tm t (.bool c)) a.tmps.toList := by
  have hg := h.get t
  rw [hl] at hg
  simp only [Rel] at hg
  have := h.set t (a := .bool c) (v := .bool c) rfl
  have e : a.tmps.toList.set t (.bool c) = a.tmps.toList := by
    subst hc
    by_cases hlt : t < a.tmps.toList.length
    · apply List.ext_getElem?
      intro i
      rw [List.getElem?_set]
      split
      · rename_i hi; subst hi
        rw [← hg]
        simp only [List.getD, List.getElem?_eq_getElem hlt, Option.getD_some]
      · rfl
    · exact List.set_eq_of_length_le (by omega)
  rwa [e] at this

section
variable {P : Program} {tab : Tab} {call : ACall} (hT : TabOK P tab) (hC : CallOK P call) {C : Ctx}

theorem oget_get : ∀ {l : List Oper} {j : Nat} {o : Oper}, oget l j = some o → l[j]? = some o
  | [], j, o, h => by simp [oget] at h
  | a :: l, 0, o, h => by simpa [oget] using h
  | a :: l, j + 1, o, h => by simpa using oget_get (l := l) (by simpa [oget] using h)

theorem yielded_und {ops : Array Oper} {j : Nat} {oj : Oper} {t : Tmp} {tmps : Array Value} (h1 : ops[j]? = some oj) (ht : oj.dst = some t) (h : tmps.toList.getD t undef = undef) : yielded ops tmps j = none := by
  have h3 : tmps[t]? = none ∨ tmps[t]? = some undef := by
    by_cases hlt : t < tmps.size
    · have : tmps.toList.getD t undef = tmps[t] := by simp [List.getD, List.getElem?_eq_getElem, hlt]
      rw [this] at h
      exact .inr (by rw [Array.getElem?_eq_getElem hlt, h])
    · exact .inl (by simp [hlt])
  rcases h3 with h3 | h3 <;> simp [yielded, h1, ht, h3, undef]

/-- An operation under its guard. -/
theorem guarded_sound {ops : Array Oper} {o : Oper} {σ : St} {yes no : St → Prop} {E : Env} {w : World} {a : Act} (hS : SatS C E w σ a) (h : guarded ops.toList o σ yes no) :
    (Region.wanted o (yielded ops a.tmps) = true ∧ ∃ σ', yes σ' ∧ SatS C E w σ' a ∧ σ'.mem = σ.mem) ∨
    (Region.wanted o (yielded ops a.tmps) = false ∧ ∃ σ', no σ' ∧ SatS C E w σ' a ∧ σ'.mem = σ.mem) := by
  unfold guarded at h
  split at h
  · rename_i hg
    exact .inl ⟨by simp [Region.wanted, hg], σ, h, hS, rfl⟩
  · rename_i j want hg
    split at h
    · rename_i oj hj
      split at h
      · rename_i t ht
        split at h
        · rename_i b hb
          have hy : yielded ops a.tmps j = some b := by
            have h1 : ops[j]? = some oj := by simpa using oget_get hj
            have h2 := hS.tm.get t
            rw [hb] at h2
            simp only [Rel] at h2
            have h3 : a.tmps[t]? = some (.bool b) := by
              by_cases hlt : t < a.tmps.size
              · have : a.tmps.toList.getD t undef = a.tmps[t] := by simp [List.getD, List.getElem?_eq_getElem, hlt]
                rw [this] at h2
                rw [Array.getElem?_eq_getElem hlt, h2]
              · have : a.tmps.toList.getD t undef = undef := by simp [List.getD, hlt]
                rw [this] at h2
                simp [undef] at h2
            simp [yielded, h1, ht, h3]
          have hset : ∀ c, b = c → SatS C E w { σ with tm := lset σ.tm t (.bool c) } a := fun c hc => ⟨hS.mem, lset_rel hS.tm hb hc, hS.dfr, hS.keep⟩
          split at h
          · cases b with
            | true => exact .inl ⟨by simp [Region.wanted, hg, hy], _, h, hset true rfl, rfl⟩
            | false => exact .inr ⟨by simp [Region.wanted, hg, hy], _, h, hset false rfl, rfl⟩
          · cases b with
            | true => exact .inr ⟨by simp [Region.wanted, hg, hy], _, h, hset true rfl, rfl⟩
            | false => exact .inl ⟨by simp [Region.wanted, hg, hy], _, h, hset false rfl, rfl⟩
        · rename_i hb
          have hy : yielded ops a.tmps j = none := by
            have h1 : ops[j]? = some oj := by simpa using oget_get hj
            have h2 := hS.tm.get t
            rw [hb] at h2
            simp only [Rel] at h2
            exact yielded_und h1 ht (by simpa using h2)
          exact .inr ⟨by simp [Region.wanted, hg, hy], σ, h, hS, rfl⟩
        · exact h.elim
      · exact h.elim
    · exact h.elim

include hT hC

/-- One operation. -/
theorem runOp_sound {o : Oper} {σ : St} {Q : AExit → St → Prop} {K : St → Prop} {E : Env} {w : World} {a : Act} (hS : SatS C E w σ a) (h : runOp tab call o σ Q K)
    {next : Act → World → Prop} {Q' : Exit → Act → World → Prop}
    (hn : ∀ σ' E' w' a', K σ' → SatS C E' w' σ' a' → next a' w') (hq : ∀ e a' w', PQ C Q e a' w' → Q' e a' w') : o.wp P a w next Q' := by
  unfold Oper.wp
  refine upon_of_uponV (xop_sound hT hC hS.mem (ev_rel hS.tm) h fun out m' k1 k2 E' w' hK hM hE => ?_)
  have htm := killF_rel hE hS.tm
  have hkeep : EKeep C.E0 C.w0 E' w' (uni k1 σ.k1) (uni k2 σ.k2) := hS.keep.transU hE
  cases out with
  | ret av =>
    intro v hv
    exact hn _ E' w' _ hK ⟨hM, put_rel htm o.dst hv, by rw [put_defers]; exact hS.dfr, hkeep⟩
  | panic av =>
    intro v hv
    exact hq _ _ _ ⟨_, _, E', hK, ⟨hM, htm, hS.dfr, hkeep⟩, v, rfl, hv⟩

theorem aops_sound {ops : Array Oper} {Q : AExit → St → Prop} : ∀ {l : List Oper} {σ : St} {E : Env} {w : World} {a : Act}, SatS C E w σ a → aops tab call ops.toList Q l σ →
    wpList P ops (PQ C Q) l a w
  | [], σ, E, w, a, hS, h => ⟨_, _, E, h, hS, rfl⟩
  | o :: l, σ, E, w, a, hS, h => by
    simp only [aops] at h
    unfold wpList
    rcases guarded_sound hS h with ⟨hw, σ', h, hS', _⟩ | ⟨hw, σ', h, hS', _⟩
    · rw [if_pos hw]
      exact .inl (runOp_sound hT hC hS' h (fun σ'' E' w' a' hK hS'' => aops_sound hS'' hK) fun _ _ _ h => h)
    · rw [if_neg (by simp [hw])]
      exact aops_sound (σ := { σ' with tm := putT σ'.tm o.dst .und }) ⟨hS'.mem, put_rel (av := .und) (v := undef) hS'.tm o.dst rfl, by rw [put_defers]; exact hS'.dfr, hS'.keep⟩ h
end

/-! ### Code -/

/-- What is said of a loop is so. -/
def SummOK (P : Program) (c : Code) (S : Summ) : Prop :=
  ∀ Q σ, S σ Q → ∀ C E w a, SatS C E w σ a → (Code.loop c).wp P (PQ C Q) a w

def LoopsOK (P : Program) (L : Loops) (c : Code) : Prop := ∀ d ∈ loopsOf c, ∀ k S, firstRegion d = some k → llook L k = some S → SummOK P d S

/-- Regions that draw their order are looked at elsewhere. -/
def DrawOK (P : Program) (tab : Tab) (call : ACall) (C : Ctx) : Prop :=
  ∀ id (ops : Array Oper) Q σ E w a, adraw tab call ops.toList Q σ → SatS C E w σ a → (Code.region id ops true).wp P (PQ C Q) a w

section
variable {P : Program} {tab : Tab} {call : ACall} (hT : TabOK P tab) (hC : CallOK P call) {L : Loops} {fuel : Nat} {C : Ctx} (hD : DrawOK P tab call C)
include hT hC hD

theorem awp_sound : ∀ {c : Code} {Q : AExit → St → Prop} {σ : St} {E : Env} {w : World} {a : Act}, LoopsOK P L c → awp tab call L fuel c Q σ → SatS C E w σ a → c.wp P (PQ C Q) a w
  | .skip, Q, σ, E, w, a, _, h, hS => wp_skip ⟨_, _, E, h, hS, rfl⟩
  | .label _, Q, σ, E, w, a, _, h, hS => wp_label ⟨_, _, E, h, hS, rfl⟩
  | .ret, Q, σ, E, w, a, _, h, hS => wp_ret ⟨_, _, E, h, hS, rfl⟩
  | .exit id, Q, σ, E, w, a, _, h, hS => wp_exit ⟨_, _, E, h, hS, rfl⟩
  | .seq x y, Q, σ, E, w, a, hL, h, hS => by
    simp only [awp] at h
    have hLx : LoopsOK P L x := fun d hd => hL d (List.mem_append.2 (.inl hd))
    have hLy : LoopsOK P L y := fun d hd => hL d (List.mem_append.2 (.inr hd))
    refine wp_seq (wp_mono (awp_sound hLx h hS) fun e a' w' hq => ?_)
    obtain ⟨ae, σ', E', hQ, hS', hE⟩ := hq
    cases ae with
    | normal => cases hE; exact awp_sound hLy hQ hS'
    | exit id => cases hE; exact ⟨_, σ', E', hQ, hS', rfl⟩
    | ret => cases hE; exact ⟨_, σ', E', hQ, hS', rfl⟩
    | panic av => obtain ⟨v, rfl, hv⟩ := hE; exact ⟨_, σ', E', hQ, hS', v, rfl, hv⟩
  | .cond c x y, Q, σ, E, w, a, hL, h, hS => by
    simp only [awp] at h
    have hLx : LoopsOK P L x := fun d hd => hL d (List.mem_append.2 (.inl hd))
    have hLy : LoopsOK P L y := fun d hd => hL d (List.mem_append.2 (.inr hd))
    split at h
    · rename_i b hb
      have hr := ev_rel hS.tm c
      rw [hb] at hr
      refine wp_cond hr ?_
      cases b with
      | true => exact awp_sound hLx h hS
      | false => exact awp_sound hLy h hS
    · exact h.elim
  | .block id c, Q, σ, E, w, a, hL, h, hS => by
    simp only [awp] at h
    refine wp_block (wp_mono (awp_sound hL h hS) fun e a' w' hq => ?_)
    obtain ⟨ae, σ', E', hQ, hS', hE⟩ := hq
    cases ae with
    | normal => cases hE; exact ⟨_, σ', E', hQ, hS', rfl⟩
    | exit i =>
      cases hE
      simp only [Exit.inBlock]
      simp only at hQ
      split at hQ
      · rename_i hb
        rw [if_pos (beq_true hb)]
        exact ⟨_, σ', E', hQ, hS', rfl⟩
      · rename_i hb
        rw [if_neg (by intro e; subst e; simp at hb)]
        exact ⟨_, σ', E', hQ, hS', rfl⟩
    | ret => cases hE; exact ⟨_, σ', E', hQ, hS', rfl⟩
    | panic av => obtain ⟨v, rfl, hv⟩ := hE; exact ⟨_, σ', E', hQ, hS', v, rfl, hv⟩
  | .loop c, Q, σ, E, w, a, hL, h, hS => by
    simp only [awp] at h
    have hLc : LoopsOK P L c := fun d hd => hL d (List.mem_cons_of_mem _ hd)
    have unroll : ∀ (n : Nat) (σ : St) (E : Env) (w : World) (a : Act), loopU (awp tab call L fuel c) Q n σ → SatS C E w σ a → Code.rounds P c (PQ C Q) n a w := by
      intro n
      induction n with
      | zero => intro σ E w a h; exact h.elim
      | succ n ih =>
        intro σ E w a h hS
        simp only [loopU] at h
        rw [rounds_succ]
        refine wp_mono (awp_sound hLc h hS) fun e a' w' hq => ?_
        obtain ⟨ae, σ', E', hQ, hS', hE⟩ := hq
        cases ae with
        | normal => cases hE; exact ih σ' E' w' a' hQ hS'
        | exit id => cases hE; exact ⟨_, σ', E', hQ, hS', rfl⟩
        | ret => cases hE; exact ⟨_, σ', E', hQ, hS', rfl⟩
        | panic av => obtain ⟨v, rfl, hv⟩ := hE; exact ⟨_, σ', E', hQ, hS', v, rfl, hv⟩
    split at h
    · rename_i k hk
      split at h
      · rename_i S hl
        exact hL c (List.mem_cons_self ..) k S hk hl Q σ h C E w a hS
      · exact wp_loop_rounds fuel (unroll fuel σ E w a h hS)
    · exact wp_loop_rounds fuel (unroll fuel σ E w a h hS)
  | .region id ops d, Q, σ, E, w, a, hL, h, hS => by
    simp only [awp] at h
    split at h
    · exact wp_region_list (aops_sound hT hC hS h)
    · exact hD id ops Q σ E w a h hS
  | .rangeFunc .., Q, σ, E, w, a, _, h, hS => h.elim
  | .scope _, Q, σ, E, w, a, _, h, hS => h.elim
  | .goto _, Q, σ, E, w, a, _, h, hS => h.elim
  | .refuse _, Q, σ, E, w, a, _, h, hS => h.elim
end

/-! ### Calls -/

theorem resQ_rel {P : Program} {tab : Tab} (hT : TabOK P tab) {B : Base} {E : Env} {w : World} {m : List Blk} {tm : List AV} {tmps : Array Value} (hM : SatM B E m w) (h : RelL E w tm tmps.toList) :
    ∀ {l : List ResultVar} {K : List AV → Prop}, resQ tab tm m l K → ∃ (vs : List Value) (as : List AV), (l.mapM (m := Sem) fun | .tmp t => pure (tmps.getD t undef) | .cell a t => do loadVar t (← asAddr (tmps.getD a undef))).run P w = .ok vs w ∧ RelL E w as vs ∧ K as
  | [], K, hK => ⟨[], [], rfl, rfl, hK⟩
  | .tmp t :: l, K, hK => by
    obtain ⟨vs, as, h1, h2, h3⟩ := resQ_rel hT hM h (l := l) hK
    refine ⟨tmps.getD t undef :: vs, lget tm t :: as, ?_, ⟨_, vs, rfl, ?_, h2⟩, h3⟩
    · rw [List.mapM_cons]
      simp only [Sem.run_bind, Sem.run_pure, Result.andThen_ok, h1]
    · have := h.get t
      simpa [List.getD, Array.getD_eq_getD_getElem?] using this
  | .cell a t :: l, K, hK => by
    simp only [resQ] at hK
    have hx : Rel E w (lget tm a) (tmps.getD a undef) := by
      have := h.get a
      simpa [List.getD, Array.getD_eq_getD_getElem?] using this
    obtain ⟨r, av, h4, h5, h6⟩ := loadA_sound hT hM hx hK
    obtain ⟨vs, as, h1, h2, h3⟩ := resQ_rel hT hM h (l := l) h6
    refine ⟨r :: vs, av :: as, ?_, ⟨_, vs, rfl, h5, h2⟩, h3⟩
    rw [List.mapM_cons]
    have h7 : (do loadVar t (← asAddr (tmps.getD a undef)) : Sem Value).run P w = .ok r w := by
      rw [← h4]
      generalize tmps.getD a undef = v at *
      cases v with
      | pointer o =>
        cases o with
        | some a => simp [Instr.loadAt, Instr.sureAddr, asAddr]
        | none => simp [Instr.loadAt, Instr.sureAddr] at h4
      | _ => simp [Instr.loadAt, Instr.sureAddr] at h4
    simp only [Sem.run_bind, Sem.run_pure, Result.andThen_ok, h1] at h7 ⊢
    rw [h7]
    simp only [Result.andThen_ok, h1]

/-! What a call has made is left behind. -/
def Env.trim (E E0 : Env) (n : Nat) : Env := { E with bl := fun i => if i < n then E.bl i else none, sl := fun i => if i < n then E.sl i else E0.sl i }
theorem Env.trim_ok {E E0 : Env} {n : Nat} {src : List Nat} {b : Nat} (h : E.ok src b) : (E.trim E0 n).ok src b := by
  refine ⟨h.1, fun i hi => h.2 i ?_⟩
  simp only [Env.trim] at hi
  split at hi
  · exact hi
  · cases hi
theorem Env.trim_bl {E E0 : Env} {n i b : Nat} (hi : i < n) (h : E.bl i = some b) : (E.trim E0 n).bl i = some b := by simp [Env.trim, hi, h]
theorem andb_split {a b : Bool} (h : andb a b = true) : a = true ∧ b = true := by cases a <;> simp_all [andb]
theorem blt_lt {a b : Nat} (h : Nat.blt a b = true) : a < b := Nat.le_of_ble_eq_true h
mutual
theorem Rel.trim {E E0 : Env} {w : World} {n : Nat} : ∀ {a : AV} {v : Value}, refsV n a = true → Rel E w a v → Rel (E.trim E0 n) w a v
  | .bad, v, _, h => by simp [Rel]
  | .und, v, _, h => by simpa [Rel] using h
  | .int _ _, v, _, h => by simpa [Rel] using h
  | .bool _, v, _, h => by simpa [Rel] using h
  | .str _, v, _, h => by simpa [Rel] using h
  | .nilp, v, _, h => by simpa [Rel] using h
  | .nsl _, v, _, h => by simpa [Rel] using h
  | .nilfn, v, _, h => by simpa [Rel] using h
  | .nilif, v, _, h => by simpa [Rel] using h
  | .view src t xs, v, _, h => by
    simp only [Rel] at h ⊢
    exact DRep.keep (t := .list t) (fun b hb _ => ⟨Env.trim_ok hb, fun _ _ h => h⟩) h
  | .vptr src cells, v, hr, h => by
    simp only [Rel, refsV] at h hr ⊢
    obtain ⟨b, off, vs, rfl, hok, hc, hl, hne⟩ := h
    exact ⟨b, off, vs, rfl, Env.trim_ok hok, hc, RelL.trim hr hl, hne⟩
  | .ptr i off, v, hr, h => by
    simp only [Rel, refsV] at h hr ⊢
    obtain ⟨b, hb, rfl⟩ := h
    exact ⟨b, Env.trim_bl (blt_lt hr) hb, rfl⟩
  | .vsl i off len cap, v, hr, h => by
    simp only [Rel, refsV] at h hr ⊢
    obtain ⟨b, hb, rfl⟩ := h
    exact ⟨b, Env.trim_bl (blt_lt hr) hb, rfl⟩
  | .own i, v, hr, h => by
    simp only [Rel, refsV] at h hr ⊢
    simpa [Env.trim, blt_lt hr] using h
  | .rptr i t idx off, v, hr, h => by
    simp only [Rel, refsV] at h hr ⊢
    obtain ⟨b, hb, rfl⟩ := h
    exact ⟨b, Env.trim_bl (blt_lt hr) hb, rfl⟩
  | .agg l, v, hr, h => by
    simp only [Rel, refsV] at h hr ⊢
    obtain ⟨vs, rfl, h⟩ := h
    exact ⟨vs, rfl, RelL.trim hr h⟩
  | .tup l, v, hr, h => by
    simp only [Rel, refsV] at h hr ⊢
    obtain ⟨vs, rfl, h⟩ := h
    exact ⟨vs, rfl, RelL.trim hr h⟩
  | .fn f l m, v, hr, h => by
    simp only [Rel, refsV] at h hr ⊢
    have hr := andb_split hr
    obtain ⟨a, b, rfl, h1, h2⟩ := h
    exact ⟨a, b, rfl, RelL.trim hr.1 h1, RelL.trim hr.2 h2⟩
  | .iface t x, v, hr, h => by
    simp only [Rel, refsV] at h hr ⊢
    obtain ⟨u, rfl, h⟩ := h
    exact ⟨u, rfl, Rel.trim hr h⟩
theorem RelL.trim {E E0 : Env} {w : World} {n : Nat} : ∀ {l : List AV} {vs : List Value}, refsL n l = true → RelL E w l vs → RelL (E.trim E0 n) w l vs
  | [], vs, _, h => by simpa [RelL] using h
  | a :: l, vs, hr, h => by
    simp only [RelL, refsL] at h hr ⊢
    have hr := andb_split hr
    obtain ⟨v, us, rfl, h1, h⟩ := h
    exact ⟨v, us, rfl, Rel.trim hr.1 h1, RelL.trim hr.2 h⟩
end
theorem mtake_eq : ∀ (n : Nat) (m : List Blk), mtake n m = m.take n
  | 0, m => by simp [mtake]
  | n + 1, [] => by simp [mtake]
  | n + 1, a :: m => by simp [mtake, mtake_eq n m]
theorem refsM_get {n : Nat} : ∀ {m : List Blk} {i : Nat} {l : List AV}, refsM n m = true → m[i]? = some (.var l) → refsL n l = true
  | [], i, l, h, hi => by simp at hi
  | b :: m, i, l, h, hi => by
    cases i with
    | zero =>
      simp only [List.getElem?_cons_zero, Option.some.injEq] at hi
      subst hi
      simp only [refsM] at h
      exact (andb_split h).1
    | succ i =>
      refine refsM_get (m := m) (i := i) ?_ (by simpa using hi)
      cases b with
      | var l => simp only [refsM] at h; exact (andb_split h).2
      | dead => simpa [refsM] using h
      | row _ _ _ _ => simpa [refsM] using h
theorem mem_filtN {n i : Nat} : ∀ {l : List Nat}, i ∈ l → i < n → i ∈ filtN n l
  | a :: l, hi, hn => by
    simp only [filtN]
    cases hb : Nat.blt a n with
    | true =>
      cases hi with
      | head => simp
      | tail _ hi => exact List.mem_cons_of_mem _ (mem_filtN hi hn)
    | false =>
      cases hi with
      | head => exact absurd hn (by intro h; rw [show Nat.blt i n = true from Nat.ble_eq_true_of_le h] at hb; cases hb)
      | tail _ hi => exact mem_filtN hi hn

theorem trim_sound {B : Base} {E E' : Env} {m m' : List Blk} {w w' : World} {out : AOut} {e : Ending} {k1 k2 : List Nat} {Q : AK} (hM0 : SatM B E m w) (hQ : trimK (mlen m) Q out m' k1 k2)
    (hM : SatM B E' m' w') (hk : EKeep E w E' w' k1 k2) (ho : OutR E' w' out e) :
    ∃ out m'' k1 k2 E'', Q out m'' k1 k2 ∧ SatM B E'' m'' w' ∧ EKeep E w E'' w' k1 k2 ∧ OutR E'' w' out e := by
  unfold trimK at hQ
  rw [mlen_eq] at hQ
  split at hQ
  · rename_i hr
    have hr := andb_split hr
    have hlt : ∀ i b, E.bl i = some b → i < m.length := fun i b hb => by
      by_cases hi : i < m.length
      · exact hi
      · rw [hM0.out i (by omega)] at hb; cases hb
    refine ⟨out, _, _, _, E'.trim E m.length, hQ, ?_, ?_, ?_⟩
    · refine ⟨fun i bk hb => ?_, fun i hi => ?_, fun i j b h1 h2 => ?_, fun i b h => ?_, hM.os, hM.tape, hM.output, hM.size, hM.frame, hM.T⟩
      · have hb0 := hb
        rw [mtake_eq, List.getElem?_take] at hb
        split at hb
        · rename_i hi
          have := hM.blk i bk hb
          cases bk with
          | dead => trivial
          | var l =>
            obtain ⟨b, vs, T, h1, h2, h3⟩ := this
            exact ⟨b, vs, T, Env.trim_bl hi h1, h2, h3.trim (refsM_get hr.2 hb0)⟩
          | row e t xs src =>
            obtain ⟨hl, cells, hown, h1, h2⟩ := this
            exact ⟨hl, cells, by simpa [Env.trim, hi] using hown, by simp [Env.trim, hi, h1], h2.keep fun b hb _ => ⟨Env.trim_ok hb, fun _ _ h => h⟩⟩
        · cases hb
      · simp only [Env.trim]
        split
        · rename_i hi'
          rw [mtake_eq, List.length_take] at hi
          exact hM.out i (by omega)
        · rfl
      · have g : ∀ i b, (E'.trim E m.length).bl i = some b → E'.bl i = some b := fun i b h => by
          simp only [Env.trim] at h; split at h
          · exact h
          · cases h
        exact hM.inj i j b (g i b h1) (g j b h2)
      · simp only [Env.trim] at h
        split at h
        · exact hM.old i b h
        · cases h
    · refine ⟨fun i hi b hb => Env.trim_bl (hlt i b hb) (hk.1 i (fun hc => hi (mem_filtN hc (hlt i b hb))) b hb), fun i hi => ?_, fun src hs b hok hex => ?_⟩
      · simp only [Env.trim]
        split
        · rename_i hlt'
          exact hk.2.1 i fun hc => hi (mem_filtN hc hlt')
        · rfl
      · have := hk.2.2 (src.filter (· < m.length)) (fun i hi hc => by
          have := List.mem_filter.1 hi
          exact hs i this.1 (mem_filtN hc (by simpa using this.2))) b ⟨hok.1, fun i hi => List.mem_filter.2 ⟨hok.2 i hi, by simpa using hlt i b hi⟩⟩ hex
        refine ⟨Env.trim_ok ⟨this.1.1, fun i hi => (List.mem_filter.1 (this.1.2 i hi)).1⟩, this.2⟩
    · cases out with
      | ret av => obtain ⟨v, rfl, hv⟩ := ho; exact ⟨v, rfl, hv.trim hr.1⟩
      | panic av => obtain ⟨v, rfl, hv⟩ := ho; exact ⟨v, rfl, hv.trim hr.1⟩
  · exact ⟨out, m', k1, k2, E', hQ, hM, hk, ho⟩

/-- What is asked of a function whose text is walked. -/
structure FnOK (P : Program) (f : FuncId) (fn : Func) (L : Loops) : Prop where
  func : P.funcs[f]? = some fn
  step : ∀ vs w, (callFunc f vs).run P w = .ok (.enter f vs) w
  loops : ∀ c, fn.body = some c → LoopsOK P L c

theorem results_rel {P : Program} {tab : Tab} (hT : TabOK P tab) {B : Base} {fn : Func} {E : Env} {w : World} {m : List Blk} {tm : List AV} {tmps : Array Value} (hM : SatM B E m w) (h : RelL E w tm tmps.toList)
    {K : List AV → Prop} (hK : resQ tab tm m fn.results.toList K) :
    ∃ v as, (results fn tmps).run P w = .ok v w ∧ Rel E w (oneA as) v ∧ K as := by
  obtain ⟨vs, as, h1, h2, h3⟩ := resQ_rel hT hM h hK
  have hA : (fn.results.mapM (m := Sem) fun | .tmp t => pure (tmps.getD t undef) | .cell a t => do loadVar t (← asAddr (tmps.getD a undef))).run P w = .ok vs.toArray w := by
    conv => lhs; rw [show fn.results = fn.results.toList.toArray by simp]
    rw [List.mapM_toArray]
    simp only [Sem.run_map, h1, Result.andThen_ok]
  unfold results
  simp only [Sem.run_bind]
  have e : (fn.results.mapM (m := Sem) fun | .tmp t => pure (tmps.getD t undef) | .cell a t => do loadVar t (← asAddr (tmps.getD a undef))).run P w = .ok vs.toArray w := hA
  refine ⟨if h : vs.toArray.size = 1 then vs.toArray[0] else .tuple vs.toArray, as, ?_, ?_, h3⟩
  · first
      | (rw [e]; rfl)
      | (erw [e]; rfl)
  · cases hr : as with
    | nil =>
      rw [hr] at h2; simp only [RelL] at h2; subst h2
      exact ⟨[], rfl, rfl⟩
    | cons a l =>
      rw [hr] at h2
      obtain ⟨v, us, rfl, h3, h4⟩ := h2
      cases l with
      | nil => simp only [RelL] at h4; subst h4; exact h3
      | cons b l =>
        obtain ⟨v', us', rfl, h5, h6⟩ := h4
        exact ⟨_, rfl, v, _, rfl, h3, v', us', rfl, h5, h6⟩

/-- What is said of a function is so. -/
structure SpecOK (P : Program) (f : FuncId) (S : List AV → List Blk → AK → Prop) : Prop where
  step : ∀ vs w, (callFunc f vs).run P w = .ok (.enter f vs) w
  calls : ∀ {args m K}, S args m K → ∀ B E w vs, SatM B E m w → RelL E w args vs →
    Calls P f vs.toArray w fun e w' => ∃ out m' k1 k2 E', K out m' k1 k2 ∧ SatM B E' m' w' ∧ EKeep E w E' w' k1 k2 ∧ OutR E' w' out e

def SpecsOK (P : Program) (specs : Specs) : Prop := ∀ f S, slook specs f = some S → SpecOK P f S
def FnsOK (P : Program) (fns : Fns) : Prop := ∀ f fn L, flook fns f = some (fn, L) → FnOK P f fn L

theorem specsOK_nil {P : Program} : SpecsOK P [] := by intro f S h; simp [slook] at h
theorem specsOK_cons {P : Program} {f : Nat} {S : List AV → List Blk → AK → Prop} {l : Specs} (h : SpecOK P f S) (hl : SpecsOK P l) : SpecsOK P ((f, S) :: l) := by
  intro g T hg
  simp only [slook] at hg
  split at hg
  · rename_i hb; have := beq_true hb; subst this; cases hg; exact h
  · exact hl g T hg
theorem fnsOK_nil {P : Program} : FnsOK P [] := by intro f fn L h; simp [flook] at h
theorem fnsOK_cons {P : Program} {f : Nat} {fn : Func} {L : Loops} {l : Fns} (h : FnOK P f fn L) (hl : FnsOK P l) : FnsOK P ((f, fn, L) :: l) := by
  intro g gn M hg
  simp only [flook] at hg
  split at hg
  · rename_i hb; have := beq_true hb; subst this; cases hg; exact h
  · exact hl g gn M hg
theorem loopsOK_nil {P : Program} {c : Code} : LoopsOK P [] c := by intro d _ k S _ h; simp [llook] at h

theorem rep_rel {E : Env} {w : World} : ∀ n, RelL E w (rep .bad n) (List.replicate n undef) := fun n => RelL.rep (a := .bad) (v := undef) trivial n

section
variable {P : Program} {tab : Tab} {specs : Specs} {fns : Fns} {fuel : Nat} (hT : TabOK P tab) (hSp : SpecsOK P specs) (hF : FnsOK P fns)
  (hD : ∀ {call : ACall}, CallOK P call → ∀ C, DrawOK P tab call C)
include hT hSp hF hD

/-- **Calls.** -/
theorem acall_ok : ∀ n, CallOK P (acall tab specs fns fuel n)
  | 0 => ⟨fun h => h.elim, fun h => h.elim⟩
  | n + 1 => by
    have ih := acall_ok n
    refine ⟨fun {f args m K} h vs w => ?_, fun {f args m K} h B E w vs hM hR => ?_⟩
    · simp only [acall] at h
      split at h
      · rename_i S hs; exact (hSp f S hs).step vs w
      · split at h
        · rename_i fn L hf; exact (hF f fn L hf).step vs w
        · exact h.elim
    · simp only [acall] at h
      split at h
      · rename_i S hs; exact (hSp f S hs).calls h B E w vs hM hR
      · split at h
        · rename_i fn L hf
          have hok := hF f fn L hf
          split at h
          · rename_i c hc
            refine calls_of_wp hok.func hc ?_
            let C : Ctx := ⟨B, E, w⟩
            have hlen : vs.toArray.size = llen args := by rw [llen_eq, ← hR.length]; simp
            have hS : SatS C E w (enterS fn args m) { tmps := vs.toArray ++ Array.replicate (fn.ntmps - vs.toArray.size) undef, defers := [] } := by
              refine ⟨hM, ?_, rfl, EKeep.refl E w⟩
              simp only [enterS, Array.toList_append, Array.toList_replicate, hlen]
              exact hR.app (rep_rel _)
            refine wp_mono (awp_sound hT ih (hD ih C) (hok.loops c hc) h hS) fun e a' w' hq => ?_
            obtain ⟨ae, σ', E', hQ, hS', hE⟩ := hq
            have fin : ∀ {ae}, ae = AExit.normal ∨ ae = .ret → bodyQ tab fn (trimK (mlen m) K) ae σ' → a'.defers = [] ∧ ∃ v, (results fn a'.tmps).run P w' = .ok v w' ∧
                ∃ out m' k1 k2 E', K out m' k1 k2 ∧ SatM B E' m' w' ∧ EKeep E w E' w' k1 k2 ∧ OutR E' w' out (.returned v) := by
              intro ae hae hQ
              have hQ' : resQ tab σ'.tm σ'.mem fn.results.toList fun l => trimK (mlen m) K (.ret (oneA l)) σ'.mem σ'.k1 σ'.k2 := by rcases hae with rfl | rfl <;> exact hQ
              obtain ⟨v, as, h1, h2, h3⟩ := results_rel hT hS'.mem hS'.tm hQ'
              exact ⟨hS'.dfr, v, h1, trim_sound hM h3 hS'.mem hS'.keep ⟨v, rfl, h2⟩⟩
            cases ae with
            | normal => cases hE; exact fin (.inl rfl) hQ
            | ret => cases hE; exact fin (.inr rfl) hQ
            | exit id => exact hQ.elim
            | panic av =>
              obtain ⟨v, rfl, hv⟩ := hE
              exact ⟨hS'.dfr, trim_sound hM hQ hS'.mem hS'.keep ⟨v, rfl, hv⟩⟩
          · exact h.elim
        · exact h.elim
end

end Go.Proofs.Ytbgifokhlbaapaa.Sx
