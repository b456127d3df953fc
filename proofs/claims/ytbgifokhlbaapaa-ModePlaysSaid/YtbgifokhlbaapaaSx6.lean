/- The framework: the operations that change memory, and the calls. -/
import Derived.Test.YtbgifokhlbaapaaSx5
namespace Go.Proofs.Ytbgifokhlbaapaa.Sx
set_option linter.unusedSectionVars false
set_option linter.unusedVariables false
set_option linter.unusedSimpArgs false
open Go.RowKit

theorem killM_get {k1 k2 : List Nat} : ∀ {m : List Blk} {i : Nat} {bk : Blk}, (killM k1 k2 m)[i]? = some bk → ∃ b0, m[i]? = some b0 ∧ bk = killB k1 k2 b0
  | [], i, bk, h => by simp [killM] at h
  | a :: m, i, bk, h => by
    cases i with
    | zero => simp only [killM, List.getElem?_cons_zero, Option.some.injEq] at h; exact ⟨a, rfl, h.symm⟩
    | succ i => simpa using killM_get (m := m) (i := i) (by simpa [killM] using h)
theorem killM_length {k1 k2 : List Nat} : ∀ m : List Blk, (killM k1 k2 m).length = m.length
  | [] => rfl
  | a :: m => by simp [killM, killM_length m]
theorem mset_length : ∀ (m : List Blk) (i : Nat) (b : Blk), (mset m i b).length = m.length
  | [], _, _ => rfl
  | a :: m, 0, b => rfl
  | a :: m, i + 1, b => by simp [mset, mset_length m]
theorem mset_get : ∀ {m : List Blk} {i j : Nat} {b bk : Blk}, (mset m i b)[j]? = some bk → (j = i ∧ bk = b) ∨ (j ≠ i ∧ m[j]? = some bk)
  | [], i, j, b, bk, h => by simp [mset] at h
  | a :: m, 0, j, b, bk, h => by
    cases j with
    | zero => simp [mset] at h; exact .inl ⟨rfl, h.symm⟩
    | succ j => exact .inr ⟨by simp, by simpa [mset] using h⟩
  | a :: m, i + 1, j, b, bk, h => by
    cases j with
    | zero => exact .inr ⟨by simp, by simpa [mset] using h⟩
    | succ j =>
      rcases mset_get (m := m) (i := i) (j := j) (by simpa [mset] using h) with ⟨rfl, h2⟩ | ⟨h1, h2⟩
      · exact .inl ⟨rfl, h2⟩
      · exact .inr ⟨by omega, by simpa using h2⟩

theorem DRepL.keep {S S' : Nat → Prop} {w w' : World} (k : Keeps S S' w w') {t : Ty} : ∀ {xs : List (den t)} {vs : List Value}, DRepL S w t xs vs → DRepL S' w' t xs vs
  | [], vs, h => h
  | x :: xs, vs, h => by
    obtain ⟨v, us, rfl, h1, h2⟩ := h
    exact ⟨v, us, rfl, h1.keep k, h2.keep k⟩

/-- A block of one's own that is not touched, behind a step that keeps values. -/
theorem SatB.keep {E E' : Env} {w w' : World} {k1 k2 : List Nat} (k : EKeep E w E' w' k1 k2) {i : Nat} {bk : Blk} (h : SatB E w i bk)
    (hb : ∀ b, E.bl i = some b → w'.heap[b]? = w.heap[b]?) (hbl : E'.bl i = E.bl i) (hsl : E'.sl i = E.sl i) : SatB E' w' i (killB k1 k2 bk) := by
  cases bk with
  | dead => trivial
  | var cells =>
    obtain ⟨b, vs, T, h1, h2, h3⟩ := h
    exact ⟨b, vs, T, by rw [hbl]; exact h1, by rw [hb b h1]; exact h2, h3.keep k⟩
  | row e t xs src =>
    simp only [killB]
    cases hh : hits src k2 with
    | true => trivial
    | false =>
      obtain ⟨hl, cells, hown, h1, h2⟩ := h
      refine ⟨hl, cells, ?_, by rw [hbl, hsl]; exact h1, h2.keep (k.2.2 src (hits_false hh))⟩
      rw [hsl]
      refine ⟨hown.1, ?_⟩
      rcases hown.2 with hn | ⟨g, cap, cur, hv, hb0, hg, rest⟩
      · exact .inl hn
      · refine .inr ⟨g, cap, cur, hv, hb0, ?_, rest⟩
        rw [hb g (by rw [h1, hv]; rfl)]
        exact hg

theorem EKeep.refl (E : Env) (w : World) : EKeep E w E w [] [] :=
  ⟨fun _ _ _ h => h, fun _ _ => rfl, fun _ _ _ h _ => ⟨h, fun _ _ h => h⟩⟩

theorem EKeep.trans {E E' E'' : Env} {w w' w'' : World} {k1 k2 j1 j2 : List Nat} (h : EKeep E w E' w' k1 k2) (k : EKeep E' w' E'' w'' j1 j2) :
    EKeep E w E'' w'' (j1 ++ k1) (j2 ++ k2) := by
  refine ⟨fun i hi b hb => ?_, fun i hi => ?_, fun src hs b hok hex => ?_⟩
  · simp only [List.mem_append, not_or] at hi
    exact k.1 i hi.1 b (h.1 i hi.2 b hb)
  · simp only [List.mem_append, not_or] at hi
    rw [k.2.1 i hi.1, h.2.1 i hi.2]
  · have h1 := h.2.2 src (fun i hi => fun hc => hs i hi (List.mem_append.2 (.inr hc))) b hok hex
    obtain ⟨o, v, hv⟩ := hex
    have h2 := k.2.2 src (fun i hi => fun hc => hs i hi (List.mem_append.2 (.inl hc))) b h1.1 ⟨o, v, h1.2 o v hv⟩
    exact ⟨h2.1, fun o v hv => h2.2 o v (h1.2 o v hv)⟩

theorem EKeep.sub {E E' : Env} {w w' : World} {k1 k2 j1 j2 : List Nat} (h : EKeep E w E' w' k1 k2) (h1 : ∀ i ∈ k1, i ∈ j1) (h2 : ∀ i ∈ k2, i ∈ j2) : EKeep E w E' w' j1 j2 :=
  ⟨fun i hi => h.1 i fun hc => hi (h1 i hc), fun i hi => h.2.1 i fun hc => hi (h1 i hc), fun src hs => h.2.2 src fun i hi hc => hs i hi (h2 i hc)⟩
theorem EKeep.transU {E E' E'' : Env} {w w' w'' : World} {k1 k2 j1 j2 : List Nat} (h : EKeep E w E' w' k1 k2) (k : EKeep E' w' E'' w'' j1 j2) :
    EKeep E w E'' w'' (uni j1 k1) (uni j2 k2) := (h.trans k).sub (fun _ => mem_uni) (fun _ => mem_uni)

/-- A world that differs by draws alone. -/
theorem SatM.drew {B : Base} {E : Env} {m : List Blk} {w : World} (h : SatM B E m w) (n : Nat) : SatM B E m { w with drawn := n } := by
  have hk : EKeep E w E { w with drawn := n } [] [] := ⟨fun _ _ _ h => h, fun _ _ => rfl, fun _ _ _ h _ => ⟨h, fun _ _ h => h⟩⟩
  refine ⟨fun i bk hb => ?_, h.out, h.inj, h.old, h.os, h.tape, h.output, h.size, h.frame, h.T, h.FT⟩
  have := (h.blk i bk hb).keep hk (fun _ _ => rfl) rfl rfl
  have e : killB [] [] bk = bk := by
    cases bk with
    | dead => rfl
    | var cells => simp [killB, killL_nil]
    | row e t xs src => simp [killB, hits_nil]
  rwa [e] at this

section loud
variable {P : Program} {B : Base} {E : Env} {m : List Blk} {w : World}

/-- The environment with one more block. -/
def Env.push (E : Env) (n b : Nat) : Env := { E with bl := fun i => if i = n then some b else E.bl i }

/-- A new block of one's own. -/
theorem SatM.alloc (hS : SatM B E m w) {cs : List AV} {vs : List Value} (hr : RelL E w cs vs) (T : TypeId) :
    ∃ E', SatM B E' (m ++ [.var cs]) (w.alloc (.cells vs.toArray T)) ∧ EKeep E w E' (w.alloc (.cells vs.toArray T)) [] [] ∧ E'.bl m.length = some w.heap.size := by
  have hold : ∀ b, b < w.heap.size → (w.alloc (.cells vs.toArray T)).heap[b]? = w.heap[b]? := fun b hb => by first | exact heap_alloc_old w _ b hb | exact heap_alloc_old w _ hb
  have hk : EKeep E w (E.push m.length w.heap.size) (w.alloc (.cells vs.toArray T)) [] [] := by
    refine ⟨fun i _ b hb => ?_, fun i _ => rfl, fun src _ b hok hex => ?_⟩
    · simp only [Env.push]
      by_cases hi : i = m.length
      · subst hi; rw [hS.out m.length (Nat.le_refl _)] at hb; cases hb
      · rw [if_neg hi]; exact hb
    · obtain ⟨o, v, hv⟩ := hex
      have hlt : b < w.heap.size := World.block_lt_of_cell? w _ hv
      refine ⟨⟨hok.1, fun i hi => ?_⟩, fun o v hv => ?_⟩
      · simp only [Env.push] at hi
        by_cases hin : i = m.length
        · rw [if_pos hin] at hi; cases hi; omega
        · rw [if_neg hin] at hi; exact hok.2 i hi
      · rw [World.cell?_alloc_lt (a := ⟨b, o, none⟩) _ _ hlt]; exact hv
  refine ⟨E.push m.length w.heap.size, ?_, hk, by simp [Env.push]⟩
  refine ⟨fun i bk hb => ?_, fun i hi => ?_, fun i j b hi hj => ?_, fun i b hi => ?_, hS.os, hS.tape, hS.output, ?_, fun b hb hF => ?_, hS.T, hS.FT⟩
  · by_cases hin : i = m.length
    · subst hin
      simp at hb
      subst hb
      refine ⟨w.heap.size, vs, T, by simp [Env.push], heap_alloc_new w _, ?_⟩
      have := hr.keep hk
      rwa [killL_nil] at this
    · have hb' : m[i]? = some bk := by
        rw [List.getElem?_append] at hb
        split at hb
        · exact hb
        · rename_i hlt
          have : i - m.length ≠ 0 := by omega
          cases hd : i - m.length with
          | zero => omega
          | succ k => rw [hd] at hb; simp at hb
      have := (hS.blk i bk hb').keep hk (fun b hbl => hold b (hS.old i b hbl).2) (by simp [Env.push, hin]) rfl
      have e : killB [] [] bk = bk := by
        cases bk with
        | dead => rfl
        | var cells => simp [killB, killL_nil]
        | row e t xs src => simp [killB, hits_nil]
      rwa [e] at this
  · simp only [List.length_append, List.length_singleton] at hi
    simp only [Env.push]
    rw [if_neg (by omega)]
    exact hS.out i (by omega)
  · simp only [Env.push] at hi hj
    by_cases h1 : i = m.length <;> by_cases h2 : j = m.length
    · omega
    · rw [if_pos h1] at hi; rw [if_neg h2] at hj; cases hi; have := (hS.old j _ hj).2; omega
    · rw [if_neg h1] at hi; rw [if_pos h2] at hj; cases hj; have := (hS.old i _ hi).2; omega
    · rw [if_neg h1] at hi; rw [if_neg h2] at hj; exact hS.inj i j b hi hj
  · simp only [Env.push] at hi
    have hsz : (w.alloc (.cells vs.toArray T)).heap.size = w.heap.size + 1 := by simp
    by_cases h1 : i = m.length
    · rw [if_pos h1] at hi; cases hi; exact ⟨.inr hS.size, by omega⟩
    · rw [if_neg h1] at hi; have := hS.old i b hi; exact ⟨this.1, by omega⟩
  · have := hS.size; simp; omega
  · rw [hold b (by have := hS.size; omega)]; exact hS.frame b hb hF

theorem EKeep.write {i b0 : Nat} (hb0 : E.bl i = some b0) {w' : World} (hw : ∀ b, b ≠ b0 → w'.heap[b]? = w.heap[b]?) : EKeep E w E w' [] [i] := by
  refine ⟨fun _ _ _ h => h, fun _ _ => rfl, fun src hs b hok _ => ⟨hok, fun o v hv => ?_⟩⟩
  have hne : b ≠ b0 := by
    intro e; subst e
    exact hs i (hok.2 i hb0) (by simp)
  have := World.cell?_of_block (w := w) (w' := w') (a := ⟨b, o, none⟩) (hw b hne)
  rw [this]; exact hv

/-- A block of one's own, written. -/
theorem SatM.write (hS : SatM B E m w) {i b0 : Nat} (hb0 : E.bl i = some b0) {cs : List AV} {vs cur : List Value} {T : TypeId} (hh : w.heap[b0]? = some (.cells cur.toArray T (0, 0)))
    (hr : RelL E (w.setRow b0 vs.toArray) cs vs) : SatM B E (mset (killM [] [i] m) i (.var cs)) (w.setRow b0 vs.toArray) ∧ EKeep E w E (w.setRow b0 vs.toArray) [] [i] := by
  have hw : ∀ b, b ≠ b0 → (w.setRow b0 vs.toArray).heap[b]? = w.heap[b]? := fun b hb => setRow_other w b0 b _ hb
  have hk := EKeep.write hb0 hw
  refine ⟨⟨fun j bk hb => ?_, fun j hj => ?_, hS.inj, fun j b hj => ?_, hS.os, hS.tape, hS.output, ?_, fun b hb hF => ?_, hS.T, hS.FT⟩, hk⟩
  · rcases mset_get hb with ⟨rfl, rfl⟩ | ⟨hne, hb⟩
    · exact ⟨b0, vs, T, hb0, setRow_heap w b0 _ _ T _ hh, hr⟩
    · obtain ⟨bk0, hb1, rfl⟩ := killM_get hb
      refine (hS.blk j bk0 hb1).keep hk (fun b hbl => hw b ?_) rfl rfl
      intro e; subst e
      exact hne (hS.inj j i b hbl hb0)
  · rw [mset_length, killM_length] at hj; exact hS.out j hj
  · have := hS.old j b hj; simpa using this
  · simpa using hS.size
  · have hlt := hS.old i b0 hb0
    rw [hw b]; exact hS.frame b hb hF
    intro e; subst e
    rcases hlt.1 with h | h
    · exact hF h
    · omega

end loud

/-! ### What a call comes to -/

def OutR (E : Env) (w : World) : AOut → Ending → Prop
  | .ret av, e => ∃ v, e = .returned v ∧ Rel E w av v
  | .panic av, e => ∃ v, e = .panicked [{ v := v, recovered := false }] ∧ Rel E w av v

structure CallOK (P : Program) (call : ACall) : Prop where
  step : ∀ {f args m K}, call f args m K → ∀ vs w, (callFunc f vs).run P w = .ok (.enter f vs) w
  calls : ∀ {f args m K}, call f args m K → ∀ B E w vs, SatM B E m w → RelL E w args vs →
    Calls P f vs.toArray w fun e w' => ∃ out m' k1 k2 E', K out m' k1 k2 ∧ SatM B E' m' w' ∧ EKeep E w E' w' k1 k2 ∧ OutR E' w' out e

/-- What is said of a function is so. -/
structure SpecOK (P : Program) (f : FuncId) (S : List AV → List Blk → AK → Prop) : Prop where
  step : ∀ vs w, (callFunc f vs).run P w = .ok (.enter f vs) w
  calls : ∀ {args m K}, S args m K → ∀ B E w vs, SatM B E m w → RelL E w args vs →
    Calls P f vs.toArray w fun e w' => ∃ out m' k1 k2 E', K out m' k1 k2 ∧ SatM B E' m' w' ∧ EKeep E w E' w' k1 k2 ∧ OutR E' w' out e
/-- What is told of an answer, said as a call. -/
def fspecS (F : FSpec) : List AV → List Blk → AK → Prop := fun args m K => match F args m with | some (ps, v) => needL ps (K (.ret v) m [] []) | none => False
def FSOK (P : Program) (fs : FS) : Prop := ∀ f F, fslook fs f = some F → SpecOK P f (fspecS F)
theorem fsOK_nil {P : Program} : FSOK P [] := by intro f F h; simp [fslook] at h
theorem fsOK_cons {P : Program} {f : Nat} {F : FSpec} {l : FS} (h : SpecOK P f (fspecS F)) (hl : FSOK P l) : FSOK P ((f, F) :: l) := by
  intro g G hg
  simp only [fslook] at hg
  split at hg
  · rename_i hb; have := beq_true hb; subst this; cases hg; exact h
  · exact hl g G hg

/-- 'Oper.upon', the frame left out. -/
def uponV (P : Program) (next : Value → World → Prop) (pan : List PanicEntry → World → Prop) : Result Next → Prop
  | .ok (.value v) w' => next v w'
  | .ok .skip w' => next undef w'
  | .ok (.enter f args) w' => Calls P f args w' fun e w'' => (∃ v, e = .returned v ∧ next v w'') ∨ (∃ c, e = .panicked c ∧ pan c w'')
  | _ => False

theorem upon_of_uponV {P : Program} {o : Oper} {a : Act} {next : Act → World → Prop} {Q : Exit → Act → World → Prop} {r : Result Next}
    (h : uponV P (fun v w => next (a.put o.dst v) w) (fun c w => Q (.panic c) a w) r) : o.upon P a next Q r := by
  cases r with
  | ok n w' =>
    cases n <;> simp only [uponV] at h <;> try exact h.elim
    case value v => exact h
    case skip => exact h
    case enter f args =>
      refine h.mono fun e w'' he => ?_
      rcases he with ⟨v, rfl, h⟩ | ⟨c, rfl, h⟩ <;> exact h
  | halt x w' => exact h.elim

theorem lput_splice : ∀ (cs l : List AV) (n : Nat), n + cs.length ≤ l.length → lput l n cs = l.take n ++ cs ++ l.drop (n + cs.length) := by
  have hset : ∀ (l : List AV) (n : Nat) (a : AV), lset l n a = l.set n a := by
    intro l
    induction l with
    | nil => intro n a; rfl
    | cons b l ih => intro n a; cases n with
      | zero => rfl
      | succ n => simp [lset, ih]
  intro cs
  induction cs with
  | nil => intro l n h; simp [lput]
  | cons c cs ih =>
    intro l n h
    simp only [List.length_cons] at h
    simp only [lput]
    rw [hset, ih (l.set n c) (n + 1) (by simp; omega)]
    have h1 : (l.set n c).take (n + 1) = l.take n ++ [c] := by
      rw [List.take_succ_eq_append_getElem (by simp; omega)]
      simp [List.take_set_of_le]
    have h2 : (l.set n c).drop (n + 1 + cs.length) = l.drop (n + (c :: cs).length) := by
      rw [List.drop_set_of_lt (by omega)]
      congr 1
      simp; omega
    rw [h1, h2]
    simp

theorem RelL.splice {E : Env} {w : World} {l cs : List AV} {vs us : List Value} (h : RelL E w l vs) (k : RelL E w cs us) (n : Nat) (hn : n + cs.length ≤ l.length) :
    RelL E w (lput l n cs) (vs.take n ++ us ++ vs.drop (n + us.length)) := by
  rw [lput_splice cs l n hn, k.length, ← app_eq, ← app_eq, ← ltake_eq, ← ldrop_eq]
  exact ((h.take n).app k).app (h.drop _)

theorem flat_one {E : Env} {w : World} {a : AV} {v : Value} (h : Rel E w a v) (hf : flat1 a = true) : v.oneCell' = true := by
  cases a <;> simp only [flat1, Bool.false_eq_true] at hf <;> simp only [Rel, DRep] at h
  all_goals first
    | (subst h; rfl)
    | (obtain ⟨rfl, _⟩ := h; rfl)
    | (obtain ⟨_, rfl⟩ := h; rfl)
    | (obtain ⟨_, _, rfl⟩ := h; rfl)
    | (obtain ⟨_, _, rfl, _⟩ := h; rfl)
    | (obtain ⟨_, _, h1, _⟩ := h; simp only [List.cons.injEq, and_true] at h1; subst h1; rfl)
    | (obtain ⟨_, _, _, rfl, _⟩ := h; rfl)
    | (obtain ⟨_, rfl, _⟩ := h; rfl)
    | (obtain ⟨_, _, _, _, rfl⟩ := h; rfl)

theorem flatL_one {E : Env} {w : World} : ∀ {l : List AV} {vs : List Value}, RelL E w l vs → flatL l = true → ∀ v ∈ vs, v.oneCell' = true
  | [], vs, h, hf, v, hv => by simp only [RelL] at h; subst h; cases hv
  | a :: l, vs, h, hf, v, hv => by
    obtain ⟨u, us, rfl, h1, h⟩ := h
    simp only [flatL] at hf
    split at hf
    · rename_i h2
      cases hv with
      | head => exact flat_one h1 h2
      | tail _ hv => exact flatL_one h hf v hv
    · cases hf

section lop
variable {P : Program} {tab : Tab} {call : ACall} {B : Base} {E : Env} {m : List Blk} {w : World} (hT : TabOK P tab) (hC : CallOK P call) (hS : SatM B E m w)
include hT hC hS

/-- **The loud operations.** -/
theorem lop_sound {o : Oper} {ρA : Opd} {ρ : Operand → Value} (hρ : ∀ x, Rel E w (ρA x) (ρ x)) {K : AK} (h : lop tab call o ρA m K)
    {next : Value → World → Prop} {pan : List PanicEntry → World → Prop}
    (hn : ∀ out m' k1 k2 E' w', K out m' k1 k2 → SatM B E' m' w' → EKeep E w E' w' k1 k2 →
      (match out with | .ret av => ∀ v, Rel E' w' av v → next v w' | .panic av => ∀ v, Rel E' w' av v → pan [{ v := v, recovered := false }] w')) :
    uponV P next pan ((execOp ρ o).run P w) := by
  have pushed : ∀ {cs : List AV} {vs : List Value} (T : TypeId), RelL E w cs vs → K (.ret (.ptr (mlen m) 0)) (app m [.var cs]) [] [] →
      next (.pointer (some ⟨w.heap.size, 0, none⟩)) (w.alloc (.cells vs.toArray T)) := by
    intro cs vs T hr hK
    obtain ⟨E', h1, h2, h3⟩ := hS.alloc hr T
    rw [mlen_eq, app_eq] at hK
    exact hn _ _ _ _ E' _ hK h1 h2 _ (rel_ptr h3)
  unfold lop at h
  unfold execOp
  cases hop : o.op <;> rw [hop] at h <;> simp only at h ⊢ <;> try exact h.elim
  case alloc t =>
    cases ht : tlook tab t with
    | none => rw [ht] at h; exact h.elim
    | some ti =>
      rw [ht] at h
      simp only at h
      cases hz : cells? (ofV ti.zero) with
      | none => rw [hz] at h; exact h.elim
      | some cs =>
        rw [hz] at h
        simp only at h
        obtain ⟨vs, hvs, hr⟩ := Rel.cells (rel_ofV E w ti.zero) hz
        have := pushed t hr h
        simpa [Instr.alloc, (hT t ti ht).zeroValue w, newVar, newRow, hvs, uponV] using this
  case box t x =>
    cases hz : cells? (ρA x) with
    | none => rw [hz] at h; exact h.elim
    | some cs =>
      rw [hz] at h
      simp only at h
      obtain ⟨vs, hvs, hr⟩ := Rel.cells (hρ x) hz
      have := pushed t hr h
      simpa [Instr.box, newVar, newRow, hvs, uponV] using this
  case store t a x =>
    have ha := hρ a
    cases hv : ρA a <;> rw [hv] at h ha <;> simp only at h <;> try exact h.elim
    rename_i i off
    cases hm : mget m i <;> rw [hm] at h <;> simp only at h <;> try exact h.elim
    rename_i cells
    cases ht : tlook tab t with
    | none => rw [ht] at h; exact h.elim
    | some ti =>
      rw [ht] at h
      simp only at h
      cases hz : cells? (kill [] [i] (ρA x)) with
      | none => rw [hz] at h; exact h.elim
      | some cs =>
        rw [hz] at h
        simp only at h
        split at h
        · rename_i hfl
          split at h
          · rename_i hb1
            split at h
            · rename_i hb2
              obtain ⟨b0, hb0, hva⟩ := ha
              obtain ⟨cur, T, hh, hr⟩ := var_cells hT hS hm hb0
              have hb1 := beq_true hb1
              have hb2 := ble_true hb2
              -- the value's cells, in the old world
              have hk0 : ∀ us : List Value, EKeep E w E (w.setRow b0 us.toArray) [] [i] := fun us => EKeep.write hb0 fun b hb => setRow_other w b0 b _ hb
              obtain ⟨us, hus, hru⟩ := Rel.cells ((hρ x).keep (hk0 cur)) hz
              have hlen : us.length = ti.size := by rw [hru.length, ← llen_eq, hb1]
              have hcl : cur.length = llen cells := by rw [hr.length, llen_eq]
              have hle : off + us.length ≤ cur.length := by rw [hlen, hcl, ← hb1]; exact hb2
              have hst := run_storeCells_at P b0 off T us 0 cur.toArray w hh (by simpa using hle) (flatL_one hru hfl)
              simp only [Nat.add_zero] at hst
              have hrN : RelL E (w.setRow b0 (cur.take off ++ us ++ cur.drop (off + us.length)).toArray) (lput (killL [] [i] cells) off cs) (cur.take off ++ us ++ cur.drop (off + us.length)) := by
                have h1 := hr.keep (hk0 (cur.take off ++ us ++ cur.drop (off + us.length)))
                obtain ⟨us', hus', hru'⟩ := Rel.cells ((hρ x).keep (hk0 (cur.take off ++ us ++ cur.drop (off + us.length)))) hz
                have e : us' = us := by
                  have := hus'.symm.trans hus
                  simpa using congrArg Array.toList this
                subst e
                refine h1.splice hru' off ?_
                rw [← h1.length, ← hru'.length]; exact hle
              obtain ⟨h1, h2⟩ := hS.write hb0 hh hrN
              have := hn _ _ _ _ E _ h h1 h2 undef trivial
              have hsz := (hT t ti ht).sizeOf w
              have hcs : (ρ x).cells.size = ti.size := by rw [hus]; simpa using hlen
              simpa [Instr.storeAt, Instr.sureAddr, hva, storeVar, hsz, hus, hlen, hst, uponV] using this
            · exact h.elim
          · exact h.elim
        · exact h.elim
  case call c =>
    cases hcal : c.callee <;> rw [hcal] at h <;> (try simp only at h) <;> try exact h.elim
    rename_i f
    have hf := hρ f
    cases hv : ρA f <;> rw [hv] at h hf <;> (try simp only at h) <;> try exact h.elim
    rename_i fn first cap
    cases fn <;> (try simp only at h) <;> try exact h.elim
    rename_i k
    obtain ⟨a, b, hfv, h1, h2⟩ := hf
    have hl := relL_evs hρ c.args.toList
    have hall : RelL E w (app (app first (evs ρA c.args.toList)) cap) ((a ++ c.args.toList.map ρ) ++ b) := (h1.app hl).app h2
    have hstep := hC.step h
    have hcalls := hC.calls h B E w _ hS hall
    have hrun : (do let d ← resolve ρ c o.type; invoke d.target d.args : Sem Next).run P w = .ok (.enter k ((a ++ c.args.toList.map ρ) ++ b).toArray) w := by
      have : (a.toArray ++ c.args.map ρ ++ b.toArray) = ((a ++ c.args.toList.map ρ) ++ b).toArray := by
        apply Array.ext'; simp
      simp only [resolve, hcal, hfv, Deferred.ofValue, Sem.run_bind, Sem.run_pure, Result.andThen_ok, invoke, this, hstep]
    rw [hrun]
    simp only [uponV]
    refine hcalls.mono fun e w' he => ?_
    obtain ⟨out, m', k1, k2, E', hK, hS', hE, hO⟩ := he
    have := hn _ _ _ _ E' _ hK hS' hE
    cases out with
    | ret av =>
      obtain ⟨v, rfl, hr⟩ := hO
      exact .inl ⟨v, rfl, this v hr⟩
    | panic av =>
      obtain ⟨v, rfl, hr⟩ := hO
      exact .inr ⟨_, rfl, this v hr⟩

/-- **All operations.** -/
theorem xop_sound {o : Oper} {ρA : Opd} {ρ : Operand → Value} (hρ : ∀ x, Rel E w (ρA x) (ρ x)) {K : AK} (h : xop tab call o ρA m K)
    {next : Value → World → Prop} {pan : List PanicEntry → World → Prop}
    (hn : ∀ out m' k1 k2 E' w', K out m' k1 k2 → SatM B E' m' w' → EKeep E w E' w' k1 k2 →
      (match out with | .ret av => ∀ v, Rel E' w' av v → next v w' | .panic av => ∀ v, Rel E' w' av v → pan [{ v := v, recovered := false }] w')) :
    uponV P next pan ((execOp ρ o).run P w) := by
  unfold xop at h
  split at h
  · obtain ⟨v, av, h1, h2, h3⟩ := qop_sound hT hS hρ h
    rw [h1]
    exact hn _ _ _ _ E w h3 hS (EKeep.refl E w) v h2
  · exact lop_sound hT hC hS hρ h hn
end lop

end Go.Proofs.Ytbgifokhlbaapaa.Sx
