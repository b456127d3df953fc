/- The framework: the operations that change memory, and the calls. -/
import Derived.Laws.OwnMore
import Derived.Test.YtkdemkkepepbdaaSx5
import Derived.Maps.AppendAt
namespace Go.Proofs.Ytkdemkkepepbdaa.Sx
set_option linter.unusedSectionVars false
set_option linter.unusedVariables false
set_option linter.unusedSimpArgs false
open Go.RowKit

theorem mapAV_rel {E : Env} {w : World} {f : AV → AV} (hf : ∀ {a v}, Rel E w a v → Rel E w (f a) v) : ∀ {l : List AV} {vs : List Value}, RelL E w l vs → RelL E w (mapAV f l) vs
  | [], vs, h => h
  | a :: l, vs, h => by
    obtain ⟨v, us, rfl, h1, h2⟩ := h
    exact ⟨v, us, rfl, hf h1, mapAV_rel hf h2⟩
theorem freeze_rel {B : Base} {E : Env} {m : List Blk} {w : World} (hS : SatM B E m w) : ∀ n {a : AV} {v : Value}, Rel E w a v → Rel E w (freeze m n a) v := by
  intro n
  induction n with
  | zero => intro a v _; simp [freeze, Rel]
  | succ n ih =>
    intro a v h
    have ihL : ∀ {l : List AV} {vs : List Value}, RelL E w l vs → RelL E w (mapAV (freeze m n) l) vs := fun h => mapAV_rel (fun h => ih h) h
    have hown : ∀ {i b}, E.bl i = some b → E.T b := by
      intro i b hb
      rcases (hS.old i b hb).1 with h | h
      · exact (hS.T b).2 (.inl (hS.FT b h))
      · exact (hS.T b).2 (.inr h)
    cases a <;> simp only [freeze] <;> try exact h
    case ptr i off =>
      split
      · rename_i cells hm
        split
        · simp [Rel]
        · rename_i x l hd
          obtain ⟨b, hb, rfl⟩ := h
          obtain ⟨b', vs, T, hb', hh, hr⟩ := var_sat hS hm
          rw [hb] at hb'; cases hb'
          have hr' := hr.drop off
          rw [hd] at hr'
          have hr'' := ihL hr'
          refine ⟨b, off, vs.drop off, rfl, ⟨hown hb, fun j hj => by rw [hS.inj j i b hj hb]; simp⟩, ?_, hr'', by simp [mapAV]⟩
          intro j v hj
          rw [cell_of_heap hh]
          simpa [List.getElem?_drop] using hj
      · simp [Rel]
    case own i =>
      split
      · rename_i e t xs src hm
        have hs := row_sat hS hm
        obtain ⟨a, cap, hv, hnil⟩ := own_len hs
        obtain ⟨rfl, _⟩ := h
        obtain ⟨hl, cells, hown', hbl, hd⟩ := hs
        rw [hv]
        refine ⟨a, cap, rfl, ⟨hl, ?_⟩, ?_⟩
        · rcases hown'.2 with ⟨h1, h2⟩ | ⟨g, c, cur, h1, _, _, h2, _⟩
          · rw [h2]; exact Nat.zero_le _
          · rw [h1] at hv; cases hv; exact h2
        rcases hnil with rfl | ⟨b, hb, rfl⟩
        · exact .inl rfl
        · refine .inr ⟨b, 0, rfl, ⟨hown hb, fun j hj => by rw [hS.inj j i b hj hb, uniN_eq]; exact mem_uniL (by simp)⟩, fun k x hk => ?_⟩
          have hdk := hd.get k x hk
          refine ⟨_, hdk.length, ?_, hdk.keep fun b' hb' _ => ⟨Env.ok_mono (fun j hj => by rw [uniN_eq]; exact mem_uniR hj) hb', fun _ _ h => h⟩⟩
          intro j v hj
          have hj' : cells[k * nc t + j]? = some v := by
            rw [List.getElem?_take] at hj
            split at hj
            · simpa [List.getElem?_drop] using hj
            · cases hj
          have := hown'.cells (g := b) (by rw [← hbl, hb]) _ v hj'
          simpa [addr_add] using this
      · simp [Rel]
    case sub i k =>
      split
      · rename_i e t xs src hm
        obtain ⟨a', l, c, he, rfl, h0, hle⟩ := h
        obtain ⟨a, cap, hv, _⟩ := own_len (row_sat hS hm)
        rw [hv] at he
        cases he
        have hview := own_view (m := m) hS hm
        rw [hv] at hview
        have := drep_sliced (l := 0) (u := k) hview (by omega) h0 (by omega)
        have e0 : ∀ a c, sliced a (0 : Int).toNat k.toNat c (nc t) = .slice a k.toNat c := fun _ _ => sliced_zero
        rw [e0] at this
        exact this
      · simp [Rel]
    case vptr src cells =>
      obtain ⟨b, off, vs, rfl, hok, hc, hr, hne⟩ := h
      refine ⟨b, off, vs, rfl, hok, hc, ihL hr, ?_⟩
      cases cells with
      | nil => exact absurd rfl hne
      | cons a l => simp [mapAV]
    case agg l => obtain ⟨vs, rfl, h⟩ := h; exact ⟨vs, rfl, ihL h⟩
    case tup l => obtain ⟨vs, rfl, h⟩ := h; exact ⟨vs, rfl, ihL h⟩
    case fn f x y => obtain ⟨a, b, rfl, h1, h2⟩ := h; exact ⟨a, b, rfl, ihL h1, ihL h2⟩
    case vsl => simp [Rel]
    case rptr => simp [Rel]

theorem killM_get {k1 k2 : List Nat} : ∀ {m : List Blk} {i : Nat} {bk : Blk}, (killM k1 k2 m)[i]? = some bk → ∃ b0, m[i]? = some b0 ∧ bk = killB k1 k2 b0
  | [], i, bk, h => by simp [killM] at h
  | a :: m, i, bk, h => by
    cases i with
    | zero => simp only [killM, List.getElem?_cons_zero, Option.some.injEq] at h; exact ⟨a, rfl, h.symm⟩
    | succ i => simpa using killM_get (m := m) (i := i) (by simpa [killM] using h)
theorem killM_length {k1 k2 : List Nat} : ∀ m : List Blk, (killM k1 k2 m).length = m.length
  | [] => rfl
  | a :: m => by simp [killM, killM_length m]
theorem mset_length : ∀ (m : List Blk) (i : Nat) (b : Blk), (mset m i b).length = m.length
  | [], _, _ => rfl
  | a :: m, 0, b => rfl
  | a :: m, i + 1, b => by simp [mset, mset_length m]
theorem mset_get : ∀ {m : List Blk} {i j : Nat} {b bk : Blk}, (mset m i b)[j]? = some bk → (j = i ∧ bk = b) ∨ (j ≠ i ∧ m[j]? = some bk)
  | [], i, j, b, bk, h => by simp [mset] at h
  | a :: m, 0, j, b, bk, h => by
    cases j with
    | zero => simp [mset] at h; exact .inl ⟨rfl, h.symm⟩
    | succ j => exact .inr ⟨by simp, by simpa [mset] using h⟩
  | a :: m, i + 1, j, b, bk, h => by
    cases j with
    | zero => exact .inr ⟨by simp, by simpa [mset] using h⟩
    | succ j =>
      rcases mset_get (m := m) (i := i) (j := j) (by simpa [mset] using h) with ⟨rfl, h2⟩ | ⟨h1, h2⟩
      · exact .inl ⟨rfl, h2⟩
      · exact .inr ⟨by omega, by simpa using h2⟩

theorem DRepL.keep {S S' : Nat → Prop} {w w' : World} (k : Keeps S S' w w') {t : Ty} : ∀ {xs : List (den t)} {vs : List Value}, DRepL S w t xs vs → DRepL S' w' t xs vs
  | [], vs, h => h
  | x :: xs, vs, h => by
    obtain ⟨v, us, rfl, h1, h2⟩ := h
    exact ⟨v, us, rfl, h1.keep k, h2.keep k⟩

/-- A block of one's own that is not touched, behind a step that keeps values. -/
theorem SatB.keep {E E' : Env} {w w' : World} {k1 k2 : List Nat} (k : EKeep E w E' w' k1 k2) {i : Nat} {bk : Blk} (h : SatB E w i bk)
    (hb : ∀ b, E.bl i = some b → w'.heap[b]? = w.heap[b]?) (hbl : E'.bl i = E.bl i) (hsl : E'.sl i = E.sl i) : SatB E' w' i (killB k1 k2 bk) := by
  cases bk with
  | dead => trivial
  | var cells =>
    obtain ⟨b, vs, T, h1, h2, h3⟩ := h
    exact ⟨b, vs, T, by rw [hbl]; exact h1, by rw [hb b h1]; exact h2, h3.keep k⟩
  | row e t xs src =>
    simp only [killB]
    cases hh : hits src k2 with
    | true => trivial
    | false =>
      obtain ⟨hl, cells, hown, h1, h2⟩ := h
      refine ⟨hl, cells, ?_, by rw [hbl, hsl]; exact h1, h2.keep (k.2.2 src (hits_false hh))⟩
      rw [hsl]
      refine ⟨hown.1, ?_⟩
      rcases hown.2 with hn | ⟨g, cap, cur, hv, hb0, hg, rest⟩
      · exact .inl hn
      · refine .inr ⟨g, cap, cur, hv, hb0, ?_, rest⟩
        rw [hb g (by rw [h1, hv]; rfl)]
        exact hg

theorem EKeep.refl (E : Env) (w : World) : EKeep E w E w [] [] :=
  ⟨fun _ _ _ h => h, fun _ _ => rfl, fun _ _ _ h _ => ⟨h, fun _ _ h => h⟩⟩

theorem EKeep.trans {E E' E'' : Env} {w w' w'' : World} {k1 k2 j1 j2 : List Nat} (h : EKeep E w E' w' k1 k2) (k : EKeep E' w' E'' w'' j1 j2) :
    EKeep E w E'' w'' (j1 ++ k1) (j2 ++ k2) := by
  refine ⟨fun i hi b hb => ?_, fun i hi => ?_, fun src hs b hok hex => ?_⟩
  · simp only [List.mem_append, not_or] at hi
    exact k.1 i hi.1 b (h.1 i hi.2 b hb)
  · simp only [List.mem_append, not_or] at hi
    rw [k.2.1 i hi.1, h.2.1 i hi.2]
  · have h1 := h.2.2 src (fun i hi => fun hc => hs i hi (List.mem_append.2 (.inr hc))) b hok hex
    obtain ⟨o, v, hv⟩ := hex
    have h2 := k.2.2 src (fun i hi => fun hc => hs i hi (List.mem_append.2 (.inl hc))) b h1.1 ⟨o, v, h1.2 o v hv⟩
    exact ⟨h2.1, fun o v hv => h2.2 o v (h1.2 o v hv)⟩

theorem EKeep.sub {E E' : Env} {w w' : World} {k1 k2 j1 j2 : List Nat} (h : EKeep E w E' w' k1 k2) (h1 : ∀ i ∈ k1, i ∈ j1) (h2 : ∀ i ∈ k2, i ∈ j2) : EKeep E w E' w' j1 j2 :=
  ⟨fun i hi => h.1 i fun hc => hi (h1 i hc), fun i hi => h.2.1 i fun hc => hi (h1 i hc), fun src hs => h.2.2 src fun i hi hc => hs i hi (h2 i hc)⟩
theorem EKeep.transU {E E' E'' : Env} {w w' w'' : World} {k1 k2 j1 j2 : List Nat} (h : EKeep E w E' w' k1 k2) (k : EKeep E' w' E'' w'' j1 j2) :
    EKeep E w E'' w'' (uni j1 k1) (uni j2 k2) := (h.trans k).sub (fun _ => mem_uni) (fun _ => mem_uni)

/-- A world that differs by draws alone. -/
theorem SatM.drew {B : Base} {E : Env} {m : List Blk} {w : World} (h : SatM B E m w) (n : Nat) : SatM B E m { w with drawn := n } := by
  have hk : EKeep E w E { w with drawn := n } [] [] := ⟨fun _ _ _ h => h, fun _ _ => rfl, fun _ _ _ h _ => ⟨h, fun _ _ h => h⟩⟩
  refine ⟨fun i bk hb => ?_, h.out, h.inj, h.old, h.os, h.tape, h.output, h.size, h.frame, h.T, h.FT⟩
  have := (h.blk i bk hb).keep hk (fun _ _ => rfl) rfl rfl
  have e : killB [] [] bk = bk := by
    cases bk with
    | dead => rfl
    | var cells => simp [killB, killL_nil]
    | row e t xs src => simp [killB, hits_nil]
  rwa [e] at this

section loud
variable {P : Program} {B : Base} {E : Env} {m : List Blk} {w : World}

/-- The environment with one more block. -/
def Env.push (E : Env) (n b : Nat) : Env := { E with bl := fun i => if i = n then some b else E.bl i }

/-- A new block of one's own. -/
theorem SatM.alloc (hS : SatM B E m w) {cs : List AV} {vs : List Value} (hr : RelL E w cs vs) (T : TypeId) :
    ∃ E', SatM B E' (m ++ [.var cs]) (w.alloc (.cells vs.toArray T)) ∧ EKeep E w E' (w.alloc (.cells vs.toArray T)) [] [] ∧ E'.bl m.length = some w.heap.size := by
  have hold : ∀ b, b < w.heap.size → (w.alloc (.cells vs.toArray T)).heap[b]? = w.heap[b]? := fun b hb => by first | exact heap_alloc_old w _ b hb | exact heap_alloc_old w _ hb
  have hk : EKeep E w (E.push m.length w.heap.size) (w.alloc (.cells vs.toArray T)) [] [] := by
    refine ⟨fun i _ b hb => ?_, fun i _ => rfl, fun src _ b hok hex => ?_⟩
    · simp only [Env.push]
      by_cases hi : i = m.length
      · subst hi; rw [hS.out m.length (Nat.le_refl _)] at hb; cases hb
      · rw [if_neg hi]; exact hb
    · obtain ⟨o, v, hv⟩ := hex
      have hlt : b < w.heap.size := World.block_lt_of_cell? w _ hv
      refine ⟨⟨hok.1, fun i hi => ?_⟩, fun o v hv => ?_⟩
      · simp only [Env.push] at hi
        by_cases hin : i = m.length
        · rw [if_pos hin] at hi; cases hi; omega
        · rw [if_neg hin] at hi; exact hok.2 i hi
      · rw [World.cell?_alloc_lt (a := ⟨b, o, none⟩) _ _ hlt]; exact hv
  refine ⟨E.push m.length w.heap.size, ?_, hk, by simp [Env.push]⟩
  refine ⟨fun i bk hb => ?_, fun i hi => ?_, fun i j b hi hj => ?_, fun i b hi => ?_, hS.os, hS.tape, hS.output, ?_, fun b hb hF => ?_, hS.T, hS.FT⟩
  · by_cases hin : i = m.length
    · subst hin
      simp at hb
      subst hb
      refine ⟨w.heap.size, vs, T, by simp [Env.push], heap_alloc_new w _, ?_⟩
      have := hr.keep hk
      rwa [killL_nil] at this
    · have hb' : m[i]? = some bk := by
        rw [List.getElem?_append] at hb
        split at hb
        · exact hb
        · rename_i hlt
          have : i - m.length ≠ 0 := by omega
          cases hd : i - m.length with
          | zero => omega
          | succ k => rw [hd] at hb; simp at hb
      have := (hS.blk i bk hb').keep hk (fun b hbl => hold b (hS.old i b hbl).2) (by simp [Env.push, hin]) rfl
      have e : killB [] [] bk = bk := by
        cases bk with
        | dead => rfl
        | var cells => simp [killB, killL_nil]
        | row e t xs src => simp [killB, hits_nil]
      rwa [e] at this
  · simp only [List.length_append, List.length_singleton] at hi
    simp only [Env.push]
    rw [if_neg (by omega)]
    exact hS.out i (by omega)
  · simp only [Env.push] at hi hj
    by_cases h1 : i = m.length <;> by_cases h2 : j = m.length
    · omega
    · rw [if_pos h1] at hi; rw [if_neg h2] at hj; cases hi; have := (hS.old j _ hj).2; omega
    · rw [if_neg h1] at hi; rw [if_pos h2] at hj; cases hj; have := (hS.old i _ hi).2; omega
    · rw [if_neg h1] at hi; rw [if_neg h2] at hj; exact hS.inj i j b hi hj
  · simp only [Env.push] at hi
    have hsz : (w.alloc (.cells vs.toArray T)).heap.size = w.heap.size + 1 := by simp
    by_cases h1 : i = m.length
    · rw [if_pos h1] at hi; cases hi; exact ⟨.inr hS.size, by omega⟩
    · rw [if_neg h1] at hi; have := hS.old i b hi; exact ⟨this.1, by omega⟩
  · have := hS.size; simp; omega
  · rw [hold b (by have := hS.size; omega)]; exact hS.frame b hb hF

theorem EKeep.write {i b0 : Nat} (hb0 : E.bl i = some b0) {w' : World} (hw : ∀ b, b ≠ b0 → w'.heap[b]? = w.heap[b]?) : EKeep E w E w' [] [i] := by
  refine ⟨fun _ _ _ h => h, fun _ _ => rfl, fun src hs b hok _ => ⟨hok, fun o v hv => ?_⟩⟩
  have hne : b ≠ b0 := by
    intro e; subst e
    exact hs i (hok.2 i hb0) (by simp)
  have := World.cell?_of_block (w := w) (w' := w') (a := ⟨b, o, none⟩) (hw b hne)
  rw [this]; exact hv

/-- A block of one's own, written. -/
theorem SatM.write (hS : SatM B E m w) {i b0 : Nat} (hb0 : E.bl i = some b0) {cs : List AV} {vs cur : List Value} {T : TypeId} (hh : w.heap[b0]? = some (.cells cur.toArray T (0, 0)))
    (hr : RelL E (w.setRow b0 vs.toArray) cs vs) : SatM B E (mset (killM [] [i] m) i (.var cs)) (w.setRow b0 vs.toArray) ∧ EKeep E w E (w.setRow b0 vs.toArray) [] [i] := by
  have hw : ∀ b, b ≠ b0 → (w.setRow b0 vs.toArray).heap[b]? = w.heap[b]? := fun b hb => setRow_other w b0 b _ hb
  have hk := EKeep.write hb0 hw
  refine ⟨⟨fun j bk hb => ?_, fun j hj => ?_, hS.inj, fun j b hj => ?_, hS.os, hS.tape, hS.output, ?_, fun b hb hF => ?_, hS.T, hS.FT⟩, hk⟩
  · rcases mset_get hb with ⟨rfl, rfl⟩ | ⟨hne, hb⟩
    · exact ⟨b0, vs, T, hb0, setRow_heap w b0 _ _ T _ hh, hr⟩
    · obtain ⟨bk0, hb1, rfl⟩ := killM_get hb
      refine (hS.blk j bk0 hb1).keep hk (fun b hbl => hw b ?_) rfl rfl
      intro e; subst e
      exact hne (hS.inj j i b hbl hb0)
  · rw [mset_length, killM_length] at hj; exact hS.out j hj
  · have := hS.old j b hj; simpa using this
  · simpa using hS.size
  · have hlt := hS.old i b0 hb0
    rw [hw b]; exact hS.frame b hb hF
    intro e; subst e
    rcases hlt.1 with h | h
    · exact hF h
    · omega

end loud

/-! ### What a call comes to -/

def OutR (E : Env) (w : World) : AOut → Ending → Prop
  | .ret av, e => ∃ v, e = .returned v ∧ Rel E w av v
  | .panic av, e => ∃ v, e = .panicked [{ v := v, recovered := false }] ∧ Rel E w av v

structure CallOK (P : Program) (call : ACall) : Prop where
  step : ∀ {f args m K}, call f args m K → ∀ vs w, (callFunc f vs).run P w = .ok (.enter f vs) w
  calls : ∀ {f args m K}, call f args m K → ∀ B E w vs, SatM B E m w → RelL E w args vs →
    Calls P f vs.toArray w fun e w' => ∃ out m' k1 k2 E', K out m' k1 k2 ∧ SatM B E' m' w' ∧ EKeep E w E' w' k1 k2 ∧ OutR E' w' out e

/-- What is said of a function is so. -/
structure SpecOK (P : Program) (f : FuncId) (S : List AV → List Blk → AK → Prop) : Prop where
  step : ∀ vs w, (callFunc f vs).run P w = .ok (.enter f vs) w
  calls : ∀ {args m K}, S args m K → ∀ B E w vs, SatM B E m w → RelL E w args vs →
    Calls P f vs.toArray w fun e w' => ∃ out m' k1 k2 E', K out m' k1 k2 ∧ SatM B E' m' w' ∧ EKeep E w E' w' k1 k2 ∧ OutR E' w' out e
/-- What is told of an answer, said as a call. -/
def fspecS (F : FSpec) : List AV → List Blk → AK → Prop := fun args m K => match F args m with | some (ps, v) => needL ps (K (.ret v) m [] []) | none => False
/-- What is told of a function that the model stands in for. -/
def ExtOK (P : Program) (f : FuncId) (F : FSpec) : Prop := ∀ args m ps v, F args m = some (ps, v) → AllP ps → ∀ E w vs, RelL E w args vs → ∃ u, (callFunc f vs.toArray).run P w = .ok (.value u) w ∧ Rel E w v u
/-- numbers from 1000000 on: functions that the model stands in for -/
def FSOK (P : Program) (fs : FS) : Prop := ∀ f F, fslook fs f = some F → (f < 1000000 → SpecOK P f (fspecS F)) ∧ (1000000 ≤ f → ExtOK P (f - 1000000) F)
theorem fsOK_nil {P : Program} : FSOK P [] := by intro f F h; simp [fslook] at h
theorem fsOK_cons {P : Program} {f : Nat} {F : FSpec} {l : FS} (h : SpecOK P f (fspecS F)) (hl : FSOK P l) (hf : f < 1000000 := by decide) : FSOK P ((f, F) :: l) := by
  intro g G hg
  simp only [fslook] at hg
  split at hg
  · rename_i hb; have := beq_true hb; subst this; cases hg; exact ⟨fun _ => h, fun h => by omega⟩
  · exact hl g G hg
theorem fsOK_ext {P : Program} {f : Nat} {F : FSpec} {l : FS} (h : ExtOK P f F) (hl : FSOK P l) : FSOK P ((f + 1000000, F) :: l) := by
  intro g G hg
  simp only [fslook] at hg
  split at hg
  · rename_i hb; have := beq_true hb; subst this; cases hg; exact ⟨fun h => by omega, fun _ => by simpa using h⟩
  · exact hl g G hg

/-- 'Oper.upon', the frame left out. -/
def uponV (P : Program) (next : Value → World → Prop) (pan : List PanicEntry → World → Prop) : Result Next → Prop
  | .ok (.value v) w' => next v w'
  | .ok .skip w' => next undef w'
  | .ok (.enter f args) w' => Calls P f args w' fun e w'' => (∃ v, e = .returned v ∧ next v w'') ∨ (∃ c, e = .panicked c ∧ pan c w'')
  | _ => False

theorem upon_of_uponV {P : Program} {o : Oper} {a : Act} {next : Act → World → Prop} {Q : Exit → Act → World → Prop} {r : Result Next}
    (h : uponV P (fun v w => next (a.put o.dst v) w) (fun c w => Q (.panic c) a w) r) : o.upon P a next Q r := by
  cases r with
  | ok n w' =>
    cases n <;> simp only [uponV] at h <;> try exact h.elim
    case value v => exact h
    case skip => exact h
    case enter f args =>
      refine h.mono fun e w'' he => ?_
      rcases he with ⟨v, rfl, h⟩ | ⟨c, rfl, h⟩ <;> exact h
  | halt x w' => exact h.elim

theorem lput_splice : ∀ (cs l : List AV) (n : Nat), n + cs.length ≤ l.length → lput l n cs = l.take n ++ cs ++ l.drop (n + cs.length) := by
  have hset : ∀ (l : List AV) (n : Nat) (a : AV), lset l n a = l.set n a := by
    intro l
    induction l with
    | nil => intro n a; rfl
    | cons b l ih => intro n a; cases n with
      | zero => rfl
      | succ n => simp [lset, ih]
  intro cs
  induction cs with
  | nil => intro l n h; simp [lput]
  | cons c cs ih =>
    intro l n h
    simp only [List.length_cons] at h
    simp only [lput]
    rw [hset, ih (l.set n c) (n + 1) (by simp; omega)]
    have h1 : (l.set n c).take (n + 1) = l.take n ++ [c] := by
      rw [List.take_succ_eq_append_getElem (by simp; omega)]
      simp [List.take_set_of_le]
    have h2 : (l.set n c).drop (n + 1 + cs.length) = l.drop (n + (c :: cs).length) := by
      rw [List.drop_set_of_lt (by omega)]
      congr 1
      simp; omega
    rw [h1, h2]
    simp

theorem RelL.splice {E : Env} {w : World} {l cs : List AV} {vs us : List Value} (h : RelL E w l vs) (k : RelL E w cs us) (n : Nat) (hn : n + cs.length ≤ l.length) :
    RelL E w (lput l n cs) (vs.take n ++ us ++ vs.drop (n + us.length)) := by
  rw [lput_splice cs l n hn, k.length, ← app_eq, ← app_eq, ← ltake_eq, ← ldrop_eq]
  exact ((h.take n).app k).app (h.drop _)

theorem flat_one {E : Env} {w : World} {a : AV} {v : Value} (h : Rel E w a v) (hf : flat1 a = true) : v.oneCell' = true := by
  cases a <;> simp only [flat1, Bool.false_eq_true] at hf <;> simp only [Rel, DRep] at h
  all_goals first
    | (subst h; rfl)
    | (obtain ⟨rfl, _⟩ := h; rfl)
    | (obtain ⟨_, rfl⟩ := h; rfl)
    | (obtain ⟨_, _, rfl⟩ := h; rfl)
    | (obtain ⟨_, _, rfl, _⟩ := h; rfl)
    | (obtain ⟨_, _, h1, _⟩ := h; simp only [List.cons.injEq, and_true] at h1; subst h1; rfl)
    | (obtain ⟨_, _, _, rfl, _⟩ := h; rfl)
    | (obtain ⟨_, rfl, _⟩ := h; rfl)
    | (obtain ⟨_, _, _, _, rfl⟩ := h; rfl)
    | (obtain ⟨_, _, _, _, rfl, _⟩ := h; rfl)

theorem flatL_one {E : Env} {w : World} : ∀ {l : List AV} {vs : List Value}, RelL E w l vs → flatL l = true → ∀ v ∈ vs, v.oneCell' = true
  | [], vs, h, hf, v, hv => by simp only [RelL] at h; subst h; cases hv
  | a :: l, vs, h, hf, v, hv => by
    obtain ⟨u, us, rfl, h1, h⟩ := h
    simp only [flatL] at hf
    split at hf
    · rename_i h2
      cases hv with
      | head => exact flat_one h1 h2
      | tail _ hv => exact flatL_one h hf v hv
    · cases hf

/-! ### rows that grow -/

theorem DRep.one {S : Nat → Prop} {w : World} : ∀ {t : Ty} {x : den t} {vs : List Value}, DRep S w t x vs → ∀ v ∈ vs, v.oneCell' = true
  | .int k, x, vs, h, v, hv => by obtain ⟨rfl, _⟩ := h; simp at hv; subst hv; rfl
  | .bool, x, vs, h, v, hv => by cases h; simp at hv; subst hv; rfl
  | .str, x, vs, h, v, hv => by obtain ⟨rfl, _⟩ := h; simp at hv; subst hv; rfl
  | .list t, xs, vs, h, v, hv => by obtain ⟨a, cap, rfl, _⟩ := h; simp at hv; subst hv; rfl
  | .prod a b, x, vs, h, v, hv => by
    obtain ⟨v1, v2, rfl, h1, h2⟩ := h
    rcases List.mem_append.1 hv with hv | hv
    · exact h1.one v hv
    · exact h2.one v hv
theorem DRepL.one {S : Nat → Prop} {w : World} {t : Ty} : ∀ {xs : List (den t)} {vs : List Value}, DRepL S w t xs vs → ∀ v ∈ vs, v.oneCell' = true
  | [], vs, h, v, hv => by simp only [DRepL] at h; subst h; cases hv
  | x :: xs, vs, h, v, hv => by
    obtain ⟨a, us, rfl, h1, h2⟩ := h
    rcases List.mem_append.1 hv with hv | hv
    · exact h1.one v hv
    · exact h2.one v hv
theorem DRepL.app {S : Nat → Prop} {w : World} {t : Ty} : ∀ {xs ys : List (den t)} {vs us : List Value}, DRepL S w t xs vs → DRepL S w t ys us → DRepL S w t (xs ++ ys) (vs ++ us)
  | [], ys, vs, us, h, k => by simp only [DRepL] at h; subst h; simpa using k
  | x :: xs, ys, vs, us, h, k => by
    obtain ⟨v, vs', rfl, h1, h2⟩ := h
    exact ⟨v, vs' ++ us, by simp, h1, h2.app k⟩

theorem cellsAt_app {w : World} {b o : Nat} {cs ds : List Value} (h1 : CellsAt w b o cs) (h2 : CellsAt w b (o + cs.length) ds) : CellsAt w b o (cs ++ ds) := by
  intro j v hj
  rw [List.getElem?_append] at hj
  split at hj
  · exact h1 j v hj
  · rename_i hlt
    have := h2 (j - cs.length) v hj
    rwa [show o + cs.length + (j - cs.length) = o + j by omega] at this

/-- The elements of a list lie in a row. -/
theorem view_cells {S : Nat → Prop} {w : World} {t : Ty} {b : Nat} : ∀ {xs : List (den t)} {off : Nat}, (∀ (i : Nat) (x : den t), xs[i]? = some x → ∃ cs : List Value, cs.length = nc t ∧ CellsAt w b (off + i * nc t) cs ∧ DRep S w t x cs) →
    ∃ news : List Value, DRepL S w t xs news ∧ CellsAt w b off news
  | [], off, h => ⟨[], rfl, fun j v hj => by simp at hj⟩
  | x :: xs, off, h => by
    obtain ⟨cs, h1, h2, h3⟩ := h 0 x rfl
    obtain ⟨news, h4, h5⟩ := view_cells (xs := xs) (off := off + nc t) (fun i y hi => by
      obtain ⟨cs, h1, h2, h3⟩ := h (i + 1) y (by simpa using hi)
      exact ⟨cs, h1, by rwa [Nat.add_mul, Nat.one_mul, Nat.add_comm (i * nc t), ← Nat.add_assoc] at h2, h3⟩)
    refine ⟨cs ++ news, ⟨cs, news, rfl, h3, h4⟩, cellsAt_app (by simpa using h2) (by rw [h1]; exact h5)⟩

theorem DRepL.take {S : Nat → Prop} {w : World} {t : Ty} : ∀ (n : Nat) {ys : List (den t)} {vs : List Value}, DRepL S w t ys vs → DRepL S w t (ys.take n) (vs.take (n * nc t))
  | 0, ys, vs, h => by simp [DRepL]
  | n + 1, ys, vs, h => by
    cases ys with
    | nil => simp only [DRepL] at h; subst h; simp [DRepL]
    | cons y ys =>
      obtain ⟨v, us, rfl, g1, g2⟩ := h
      have hvl := g1.length
      refine ⟨v, us.take (n * nc t), ?_, g1, DRepL.take n g2⟩
      rw [List.take_append, Nat.succ_mul, List.take_of_length_le (by omega), hvl]
      congr 2
      omega
theorem elemsAs_sound {B : Base} {E : Env} {m : List Blk} {w : World} (hS : SatM B E m w) {t : Ty} {x : AV} {v : Value} (hx : Rel E w x v) {ys : List (den t)} {srcx : List Nat} (h : elemsAs t m x = some (ys, srcx)) :
    ∃ (a : Option Addr) (cap : Nat) (news : List Value), v = .slice a ys.length cap ∧ ys.length ≤ LIM ∧ DRepL (E.ok srcx) w t ys news ∧ ((a = none ∧ ys = []) ∨ ∃ ad, a = some ad ∧ ∀ j u, news[j]? = some u → w.cell? (ad.add j) = some u) := by
  unfold elemsAs at h
  split at h
  · rename_i src t' ys0
    cases hc : castL t' t ys0 with
    | none => rw [hc] at h; cases h
    | some ys' =>
      rw [hc] at h; cases h
      obtain ⟨e, rfl⟩ := castL_eq hc
      subst e
      obtain ⟨a, cap, hv, hl, hr⟩ := hx
      simp only [List.cons.injEq, and_true] at hv
      subst hv
      rcases hr with rfl | ⟨b, off, rfl, hok, hr⟩
      · cases a with
        | none => exact ⟨none, cap, [], rfl, hl.1, rfl, .inl ⟨rfl, rfl⟩⟩
        | some ad => exact ⟨some ad, cap, [], rfl, hl.1, rfl, .inr ⟨ad, rfl, fun j u hj => by simp at hj⟩⟩
      · obtain ⟨news, h1, h2⟩ := view_cells hr
        exact ⟨_, cap, news, rfl, hl.1, h1, .inr ⟨_, rfl, fun j u hj => by rw [addr_add]; exact h2 j u hj⟩⟩
  · rename_i j
    split at h
    · rename_i e t' ys0 src hm
      cases hc : castL t' t ys0 with
      | none => rw [hc] at h; cases h
      | some ys' =>
        rw [hc] at h; cases h
        obtain ⟨e', rfl⟩ := castL_eq hc
        subst e'
        have hs := row_sat hS hm
        obtain ⟨a, cap, hv, hnil⟩ := own_len hs
        obtain ⟨rfl, _⟩ := hx
        obtain ⟨hl, cells, hown, hbl, hd⟩ := hs
        rw [hv]
        rcases hnil with rfl | ⟨b, hb, rfl⟩
        · cases a with
          | none => exact ⟨none, cap, [], rfl, hl, rfl, .inl ⟨rfl, rfl⟩⟩
          | some ad => exact ⟨some ad, cap, [], rfl, hl, rfl, .inr ⟨ad, rfl, fun j u hj => by simp at hj⟩⟩
        · exact ⟨_, cap, cells, rfl, hl, hd, .inr ⟨_, rfl, fun j u hj => hown.cells (g := b) (by rw [← hbl, hb]) j u hj⟩⟩
    · cases h
  · rename_i j n
    split at h
    · rename_i e t' ys0 src hm
      cases hc : castL t' t ys0 with
      | none => rw [hc] at h; cases h
      | some ys' =>
        rw [hc] at h; cases h
        obtain ⟨e', rfl⟩ := castL_eq hc
        subst e'
        have hs := row_sat hS hm
        obtain ⟨a, cap, hv, hnil⟩ := own_len hs
        obtain ⟨a', l, c, he, rfl, h0, hle⟩ := hx
        rw [hv] at he
        cases he
        obtain ⟨hl, cells, hown, hbl, hd⟩ := hs
        have hsub : subL ys0 0 n = ys0.take n.toNat := by simp [subL]
        have hlen : (ys0.take n.toNat).length = n.toNat := by rw [List.length_take]; omega
        have e2 : (subL ys0 0 n).length = n.toNat := by rw [hsub, hlen]
        rw [show (Value.slice a n.toNat cap) = .slice a (subL ys0 0 n).length cap by rw [e2]]
        rcases hnil with rfl | ⟨b, hb, rfl⟩
        · have e3 : subL ([] : List (den t')) 0 n = [] := by simp [subL]
          rw [e3]
          cases a with
          | none => exact ⟨none, cap, [], rfl, by simp, rfl, .inl ⟨rfl, rfl⟩⟩
          | some ad => exact ⟨some ad, cap, [], rfl, by simp, rfl, .inr ⟨ad, rfl, fun j u hj => by simp at hj⟩⟩
        · refine ⟨_, cap, cells.take (n.toNat * nc _), rfl, by rw [e2]; omega, by rw [hsub]; exact hd.take _, .inr ⟨_, rfl, fun j u hj => hown.cells (g := b) (by rw [← hbl, hb]) j u ?_⟩⟩
          rw [List.getElem?_take] at hj
          split at hj
          · exact hj
          · cases hj
    · cases h
  · cases h
    obtain ⟨a, rfl, _⟩ := hx
    cases a with
    | none => exact ⟨none, 0, [], rfl, by simp [LIM], rfl, .inl ⟨rfl, rfl⟩⟩
    | some ad => exact ⟨some ad, 0, [], rfl, by simp [LIM], rfl, .inr ⟨ad, rfl, fun j u hj => by simp at hj⟩⟩
  · cases h

section grow
variable {B : Base} {E : Env} {m : List Blk} {w : World}

/-- A row of one's own has grown. -/
theorem SatM.grow (hS : SatM B E m w) {i : Nat} {e : TypeId} {t : Ty} {xs : List (den t)} {src : List Nat} (hm : mget m i = .row e t xs src) (hi : i ∉ src) {ys : List (den t)} {srcx : List Nat} (hix : i ∉ srcx)
    {cells news : List Value} (hd : DRepL (E.ok src) w t xs cells) (hy : DRepL (E.ok srcx) w t ys news) {w' : World} {v' : Value} (hown : w'.ownsRow 0 e (nc t) v' (xs.length + ys.length) (cells ++ news)) (hg : w.grownBy w' (E.sl i).ownBlock)
    (hb : v'.ownBlock = (E.sl i).ownBlock ∨ v'.ownBlock = some w.heap.size) (hl : xs.length + ys.length ≤ LIM) :
    ∃ E', SatM B E' (mset (killM [i] [i] m) i (.row e t (xs ++ ys) (uniN src srcx))) w' ∧ EKeep E w E' w' [i] [i] ∧ E'.sl i = v' := by
  have hrow := row_sat hS hm
  have hbl : E.bl i = (E.sl i).ownBlock := by obtain ⟨_, _, _, h, _⟩ := hrow; exact h
  have hilt : i < m.length := by
    have := mget_get (m := m) (i := i) (by rw [hm]; simp)
    exact (List.getElem?_eq_some_iff.1 this).1
  let E' : Env := ⟨fun k => if k = i then v'.ownBlock else E.bl k, fun k => if k = i then v' else E.sl k, E.T⟩
  have ebl : E'.bl i = v'.ownBlock := if_pos rfl
  have esl : E'.sl i = v' := if_pos rfl
  have eblo : ∀ {k}, k ≠ i → E'.bl k = E.bl k := fun h => if_neg h
  have eslo : ∀ {k}, k ≠ i → E'.sl k = E.sl k := fun h => if_neg h
  have hnew : ∀ {b}, v'.ownBlock = some b → E.bl i = some b ∨ b = w.heap.size := by
    intro b h
    rcases hb with h1 | h1
    · exact .inl (by rw [hbl, ← h1]; exact h)
    · rw [h1] at h; cases h; exact .inr rfl
  have hkeep : EKeep E w E' w' [i] [i] := by
    refine ⟨fun k hk b hkb => by rw [eblo (by simpa using hk)]; exact hkb, fun k hk => eslo (by simpa using hk), fun s hs b hok hex => ?_⟩
    obtain ⟨o, v, hv⟩ := hex
    have hlt : b < w.heap.size := World.block_lt_of_cell? w _ hv
    have hne : E.bl i ≠ some b := fun h => hs i (hok.2 i h) (by simp)
    refine ⟨⟨hok.1, fun k hk => ?_⟩, fun o v hv => hg.cell hv (by rw [← hbl]; exact fun h => hne h.symm)⟩
    by_cases hki : k = i
    · subst hki
      rw [ebl] at hk
      rcases hnew hk with h | h
      · exact absurd h hne
      · omega
    · rw [eblo hki] at hk; exact hok.2 k hk
  refine ⟨E', ⟨fun j bk hj => ?_, fun k hk => ?_, fun k k' b h1 h2 => ?_, fun k b h => ?_, hg.os.trans hS.os, hg.tape.trans hS.tape, hg.output.trans hS.output, Nat.le_trans hS.size hg.size, fun b hb' hF => ?_, hS.T, hS.FT⟩, hkeep, esl⟩
  · rcases mset_get hj with ⟨rfl, rfl⟩ | ⟨hne, hj⟩
    · refine ⟨by rw [List.length_append]; exact hl, cells ++ news, by rw [esl, List.length_append]; exact hown, by rw [ebl, esl], ?_⟩
      have h1 := hd.keep (hkeep.2.2 src (fun k hk hc => by simp at hc; subst hc; exact hi hk))
      have h2 := hy.keep (hkeep.2.2 srcx (fun k hk hc => by simp at hc; subst hc; exact hix hk))
      rw [uniN_eq]
      exact (h1.keep (fun b hb _ => ⟨Env.ok_mono (fun k hk => mem_uniL hk) hb, fun _ _ h => h⟩)).app (h2.keep (fun b hb _ => ⟨Env.ok_mono (fun k hk => mem_uniR hk) hb, fun _ _ h => h⟩))
    · obtain ⟨bk0, hj1, rfl⟩ := killM_get hj
      refine (hS.blk j bk0 hj1).keep hkeep (fun b hbj => hg.block b (hS.old j b hbj).2 (fun h => ?_)) (eblo hne) (eslo hne)
      rw [← hbl] at h
      exact hne (hS.inj j i b hbj h.symm)
  · rw [mset_length, killM_length] at hk
    rw [eblo (by omega)]; exact hS.out k hk
  · by_cases hk : k = i <;> by_cases hk' : k' = i
    · omega
    · subst hk
      rw [ebl] at h1; rw [eblo hk'] at h2
      rcases hnew h1 with h | h
      · exact hS.inj _ _ b h h2
      · have := (hS.old k' b h2).2; omega
    · subst hk'
      rw [ebl] at h2; rw [eblo hk] at h1
      rcases hnew h2 with h | h
      · exact hS.inj _ _ b h1 h
      · have := (hS.old k b h1).2; omega
    · rw [eblo hk] at h1; rw [eblo hk'] at h2; exact hS.inj k k' b h1 h2
  · by_cases hk : k = i
    · subst hk
      rw [ebl] at h
      refine ⟨?_, (hown.lt b h).2⟩
      rcases hnew h with h | h
      · exact (hS.old k b h).1
      · subst h; exact .inr hS.size
    · rw [eblo hk] at h
      exact ⟨(hS.old k b h).1, Nat.lt_of_lt_of_le (hS.old k b h).2 hg.size⟩
  · rw [← hS.frame b hb' hF]
    refine hg.block b (Nat.lt_of_lt_of_le hb' hS.size) (fun h => ?_)
    rw [← hbl] at h
    rcases (hS.old i b h.symm).1 with h4 | h4
    · exact hF h4
    · omega

/-- A row with nothing in it. -/
theorem SatM.pushNil (hS : SatM B E m w) (e : TypeId) (t : Ty) : ∃ E', SatM B E' (killM [m.length] [] m ++ [.row e t [] []]) w ∧ EKeep E w E' w [m.length] [] ∧ E'.sl m.length = .slice none 0 0 := by
  let E' : Env := ⟨E.bl, fun k => if k = m.length then .slice none 0 0 else E.sl k, E.T⟩
  have esl : E'.sl m.length = .slice none 0 0 := if_pos rfl
  have eslo : ∀ {k}, k ≠ m.length → E'.sl k = E.sl k := fun h => if_neg h
  have hkeep : EKeep E w E' w [m.length] [] := ⟨fun _ _ _ h => h, fun k hk => eslo (by simpa using hk), fun s _ b hok _ => ⟨hok, fun _ _ h => h⟩⟩
  refine ⟨E', ⟨fun i bk hb => ?_, fun i hi => ?_, hS.inj, hS.old, hS.os, hS.tape, hS.output, hS.size, hS.frame, hS.T, hS.FT⟩, hkeep, esl⟩
  · rw [List.getElem?_append, killM_length] at hb
    split at hb
    · rename_i hlt
      obtain ⟨bk0, hb1, rfl⟩ := killM_get hb
      exact (hS.blk i bk0 hb1).keep hkeep (fun _ _ => rfl) rfl (eslo (by omega))
    · rename_i hlt
      have : i - m.length = 0 := by
        cases hd : i - m.length with
        | zero => rfl
        | succ k => rw [hd] at hb; simp at hb
      rw [this] at hb
      simp at hb
      subst hb
      have hi : i = m.length := by omega
      subst hi
      refine ⟨by simp [LIM], [], by rw [esl]; exact World.ownsRow_nil _ _ _ _, by rw [esl]; exact hS.out _ (Nat.le_refl _), rfl⟩
  · simp only [List.length_append, List.length_singleton, killM_length] at hi
    exact hS.out i (by omega)
end grow

/-- A row of one's own that is cut in place. -/
theorem SatM.trunc {B : Base} {E : Env} {m : List Blk} {w : World} (hS : SatM B E m w) {i : Nat} {e : TypeId} {t : Ty} {xs : List (den t)} {src : List Nat} (hm : mget m i = .row e t xs src) {u : Int} (h0 : 0 ≤ u) (h1 : u ≤ (xs.length : Int)) {a : Option Addr} {cap : Nat} (hv : E.sl i = .slice a xs.length cap) :
    ∃ E', SatM B E' (mset (killM [i] [] m) i (.row e t (subL xs 0 u) src)) w ∧ EKeep E w E' w [i] [] ∧ Rel E' w (.own i) (.slice a u.toNat cap) := by
  have hrow := row_sat hS hm
  obtain ⟨hl, cells, hown, hbl, hd⟩ := hrow
  have hk : EKeep E w ⟨E.bl, fun j => if j = i then .slice a u.toNat cap else E.sl j, E.T⟩ w [i] [] := by
    refine ⟨fun j hj b hb => hb, fun j hj => ?_, fun src _ b hok hex => ⟨hok, fun _ _ h => h⟩⟩
    simp only [List.mem_singleton] at hj
    simp [hj]
  refine ⟨⟨E.bl, fun j => if j = i then .slice a u.toNat cap else E.sl j, E.T⟩, ⟨fun j bk hj => ?_, fun j hj => hS.out j (by rw [mset_length, killM_length] at hj; exact hj), hS.inj, hS.old, hS.os, hS.tape, hS.output, hS.size, hS.frame, hS.T, hS.FT⟩, hk, by simp, a, u.toNat, cap, rfl⟩
  rcases mset_get hj with ⟨rfl, rfl⟩ | ⟨hne, hj⟩
  · have hsub : subL xs 0 u = xs.take u.toNat := by simp [subL]
    have hlen : (xs.take u.toNat).length = u.toNat := by rw [List.length_take]; omega
    rw [hsub]
    refine ⟨by rw [hlen]; omega, cells.take (u.toNat * nc t), ⟨?_, ?_⟩, ?_, ?_⟩
    · rw [List.length_take, hown.1, hlen]
      have : u.toNat * nc t ≤ xs.length * nc t := Nat.mul_le_mul_right _ (by omega)
      omega
    · rcases hown.2 with ⟨h2, h3⟩ | ⟨g, c, cur, h2, h3, h4, h5, h6, h7, h8⟩
      · rw [h2] at hv
        simp only [Value.slice.injEq] at hv
        obtain ⟨rfl, e1, rfl⟩ := hv
        have : u.toNat = 0 := by omega
        exact .inl ⟨by simp [this], by rw [hlen]; exact this⟩
      · rw [h2] at hv
        cases hv
        refine .inr ⟨g, cap, cur, by simp [hlen], h3, h4, by rw [hlen]; omega, h6, h7, ?_⟩
        rw [← h8, List.take_take, hlen, Nat.min_eq_left]
        exact Nat.mul_le_mul_right _ (by omega)
    · simp only [if_true]
      rw [hbl, hv]
      cases a <;> rfl
    · exact hd.take _
  · obtain ⟨b0, hb0, rfl⟩ := killM_get hj
    exact (hS.blk j b0 hb0).keep hk (fun _ _ => rfl) (by simp [hne]) (by simp [hne])

theorem nob_false {b : Bool} (h : nob b = true) : b = false := by cases b <;> simp_all [nob]
theorem memb_orb {i : Nat} {a b : List Nat} (h : orb (memb i a) (memb i b) = false) : i ∉ a ∧ i ∉ b := by
  cases ha : memb i a with
  | true => rw [ha] at h; simp [orb] at h
  | false => rw [ha] at h; exact ⟨memb_false ha, memb_false (by simpa [orb] using h)⟩

section app
variable {P : Program} {tab : Tab} {B : Base} {E : Env} {m : List Blk} {w : World} (hT : TabOK P tab) (hS : SatM B E m w)
include hT hS

theorem appTo_sound {t ty e : TypeId} (ht : P.underlying t = some (.slice e)) {i : Nat} {x : AV} {u v : Value} (hu : Rel E w (.own i) u) (hx : Rel E w x v) {K : AK} (h : appTo tab e m i x K) :
    ∃ v' w' out m' k1 k2 E', (Builtin.append_ #[t, t] ty #[u, v]).run P w = .ok v' w' ∧ K (.ret out) m' k1 k2 ∧ SatM B E' m' w' ∧ EKeep E w E' w' k1 k2 ∧ Rel E' w' out v' ∧ k1 = [i] ∧ k2 = [i] := by
  unfold appTo at h
  split at h
  · rename_i e' T xs src hm
    split at h
    · rename_i ys srcx hc hel
      split at h
      · exact h.elim
      · rename_i hno
        have hno := memb_orb hno
        obtain ⟨hfit, hK⟩ := h
        have hc1 := andb_split hc
        have hc2 := andb_split hc1.2
        have hc3 := andb_split hc2.2
        have he := beq_true hc1.1
        subst he
        have hb0 := blt_lt hc3.1
        have hb1 := ble_true hc3.2
        cases hti : tlook tab e with
        | none => simp [bytesT, hti] at hb0
        | some ti =>
          have hent := hT e ti hti
          obtain ⟨inf, hinf, hi1, hi2, hi3⟩ := hent.info
          have hbe : bytesT tab e = ti.bytes := by simp [bytesT, hti]
          have hc4 := andb_split hc2.1
          have hsz : ti.size = nc T := by
            have := hc4.1
            simp only [sizeT, hti, eqO] at this
            exact beq_true this
          have hrow := row_sat hS hm
          obtain ⟨hl, cells, hown, hbl, hd⟩ := hrow
          obtain ⟨rfl, _⟩ := hu
          obtain ⟨a, cap, news, rfl, hly, hy, hat⟩ := elemsAs_sound hS hx hel
          have hfit' : xs.length + ys.length ≤ 1099511627776 := by
            unfold fitA lenI at hfit; omega
          have hnl : news.length = ys.length * nc T := hy.length
          have hzs : ti.zero.cells.size = nc T := by
            have := hc4.2
            simp only [zeroLen, hti] at this
            cases hz : cells? (ofV ti.zero) with
            | none => rw [hz] at this; simp [eqO] at this
            | some z =>
              rw [hz] at this
              obtain ⟨vs, hvs, hrz⟩ := Rel.cells (rel_ofV E w ti.zero) hz
              rw [hvs]
              have h2 := beq_true (show Nat.beq (llen z) (nc T) = true from this)
              simp [hrz.length, ← h2, llen_eq]
          have hrun : ∃ v' w', (Builtin.append_ #[t, t] ty #[E.sl i, .slice a ys.length cap]).run P w = .ok v' w' ∧ w'.ownsRow 0 e (nc T) v' (xs.length + ys.length) (cells ++ news) ∧ w.grownBy w' (E.sl i).ownBlock ∧
              (v'.ownBlock = (E.sl i).ownBlock ∨ v'.ownBlock = some w.heap.size) := by
            rcases hat with ⟨rfl, rfl⟩ | ⟨ad, rfl, hcells⟩
            · have hn0 : news = [] := by simp only [DRepL] at hy; exact hy
              subst hn0
              refine ⟨E.sl i, w, ?_, by simpa using hown, ⟨rfl, rfl, rfl, Nat.le_refl _, fun _ _ _ => rfl⟩, .inl rfl⟩
              obtain ⟨a', cap', hv, _⟩ := own_len (row_sat hS hm)
              have hcap : xs.length ≤ cap' := by
                rcases hown.2 with ⟨h1, h2⟩ | ⟨g, c, cur, h1, _, _, h2, _⟩
                · rw [h2]; exact Nat.zero_le _
                · rw [h1] at hv; cases hv; exact h2
              rw [hv]
              cases a' <;> simp [Builtin.append_, run_underlying ht, sizeOf, typeInfo, hinf, Builtin.lenOf, Builtin.firstCells, hcap, storeCells]
            · obtain ⟨v', w', h1, h2, h3, _, h4⟩ := run_append_own_at (P := P) w 0 t ty e inf ti.zero (nc T) ti.bytes ht hinf hi3 (by rw [hi1, hsz]) hi2 hzs (nc_pos T) (E.sl i) xs.length cells hown ad ys.length cap news hnl hcells hy.one
                (by simp only [maxLen]; omega) (by
                  have : (xs.length + ys.length) * ti.bytes ≤ 1099511627776 * 128 := Nat.mul_le_mul hfit' (by rw [← hbe]; exact hb1)
                  omega) (Nat.zero_le _)
              exact ⟨v', w', h1, h2, h3, h4⟩
          obtain ⟨v', w', h1, h2, h3, h4⟩ := hrun
          obtain ⟨E', g1, g2, g3⟩ := hS.grow hm hno.1 hno.2 hd hy h2 h3 h4 (by unfold LIM; omega)
          refine ⟨v', w', _, _, _, _, E', h1, hK, g1, g2, ⟨g3.symm, ?_⟩, rfl, rfl⟩
          rcases h2.2 with ⟨h5, _⟩ | ⟨g, c, cur, h5, _⟩
          · exact ⟨none, 0, 0, h5⟩
          · exact ⟨_, _, c, h5⟩
    · exact h.elim
  · exact h.elim
end app

theorem mem_uniN {i : Nat} {k l : List Nat} : i ∈ uniN k l ↔ i ∈ k ∨ i ∈ l := by
  rw [uniN_eq]
  constructor
  · intro h
    induction k with
    | nil => exact .inr h
    | cons a k ih =>
      simp only [uni] at h
      split at h
      · rcases ih h with h | h
        · exact .inl (List.mem_cons_of_mem _ h)
        · exact .inr h
      · cases h with
        | head => exact .inl (by simp)
        | tail _ h =>
          rcases ih h with h | h
          · exact .inl (List.mem_cons_of_mem _ h)
          · exact .inr h
  · intro h; exact h.elim mem_uniL mem_uniR

/-- Cells read as a datum. -/
theorem dec_sound {E : Env} {w : World} {src : List Nat} : ∀ {t : Ty} {l r : List AV} {x : den t} {vs : List Value}, dec t l = some (x, r) → (∀ i ∈ srcsL l, i ∈ src) → RelL E w l vs →
    ∃ v1 v2, vs = v1 ++ v2 ∧ DRep (E.ok src) w t x v1 ∧ RelL E w r v2 ∧ (∀ i ∈ srcsL r, i ∈ src)
  | .int k, l, r, x, vs, h, hs, hr => by
    cases l with
    | nil => simp [dec] at h
    | cons a l =>
      cases a <;> simp only [dec, reduceCtorEq] at h
      split at h
      · rename_i hk; subst hk
        simp only [Option.some.injEq, Prod.mk.injEq] at h
        obtain ⟨rfl, rfl⟩ := h
        obtain ⟨v, us, rfl, h1, h2⟩ := hr
        exact ⟨[v], us, rfl, ⟨by rw [h1.1], h1.2⟩, h2, fun i hi => hs i (mem_uniN.2 (.inr hi))⟩
      · cases h
  | .bool, l, r, x, vs, h, hs, hr => by
    cases l with
    | nil => simp [dec] at h
    | cons a l =>
      cases a <;> simp only [dec, reduceCtorEq, Option.some.injEq, Prod.mk.injEq] at h
      obtain ⟨rfl, rfl⟩ := h
      obtain ⟨v, us, rfl, h1, h2⟩ := hr
      exact ⟨[v], us, rfl, (by simp only [Rel] at h1; rw [h1]; rfl), h2, fun i hi => hs i (mem_uniN.2 (.inr hi))⟩
  | .str, l, r, x, vs, h, hs, hr => by
    cases l with
    | nil => simp [dec] at h
    | cons a l =>
      cases a <;> simp only [dec, reduceCtorEq, Option.some.injEq, Prod.mk.injEq] at h
      obtain ⟨rfl, rfl⟩ := h
      obtain ⟨v, us, rfl, h1, h2⟩ := hr
      exact ⟨[v], us, rfl, ⟨by rw [h1.1], h1.2⟩, h2, fun i hi => hs i (mem_uniN.2 (.inr hi))⟩
  | .list t, l, r, x, vs, h, hs, hr => by
    cases l with
    | nil => simp [dec] at h
    | cons a l =>
      cases a <;> simp only [dec, reduceCtorEq] at h
      case view s t' xs =>
        cases hc : castL t' t xs with
        | none => rw [hc] at h; cases h
        | some ys =>
          rw [hc] at h
          simp only [Option.some.injEq, Prod.mk.injEq] at h
          obtain ⟨rfl, rfl⟩ := h
          obtain ⟨e, rfl⟩ := castL_eq hc
          subst e
          obtain ⟨v, us, rfl, h1, h2⟩ := hr
          exact ⟨[v], us, rfl, view_mono (fun i hi => hs i (mem_uniN.2 (.inl hi))) h1, h2, fun i hi => hs i (mem_uniN.2 (.inr hi))⟩
      case nsl b =>
        simp only [Option.some.injEq, Prod.mk.injEq] at h
        obtain ⟨rfl, rfl⟩ := h
        obtain ⟨v, us, rfl, h1, h2⟩ := hr
        exact ⟨[v], us, rfl, nsl_view h1, h2, fun i hi => hs i (mem_uniN.2 (.inr hi))⟩
  | .prod a b, l, r, x, vs, h, hs, hr => by
    simp only [dec] at h
    cases h1 : dec a l with
    | none => rw [h1] at h; cases h
    | some p =>
      obtain ⟨y, l1⟩ := p
      rw [h1] at h
      simp only at h
      cases h2 : dec b l1 with
      | none => rw [h2] at h; cases h
      | some q =>
        obtain ⟨z, l2⟩ := q
        rw [h2] at h
        simp only [Option.some.injEq, Prod.mk.injEq] at h
        obtain ⟨rfl, rfl⟩ := h
        obtain ⟨v1, v2, rfl, g1, g2, g3⟩ := dec_sound h1 hs hr
        obtain ⟨u1, u2, rfl, g4, g5, g6⟩ := dec_sound h2 g3 g2
        exact ⟨v1 ++ u1, u2, by simp, ⟨v1, u1, rfl, g1, g4⟩, g5, g6⟩
theorem decN_sound {E : Env} {w : World} {src : List Nat} {t : Ty} : ∀ {n : Nat} {l : List AV} {xs : List (den t)} {vs : List Value}, decN t n l = some xs → (∀ i ∈ srcsL l, i ∈ src) → RelL E w l vs →
    DRepL (E.ok src) w t xs vs ∧ xs.length = n
  | 0, [], xs, vs, h, hs, hr => by
    simp only [decN, Option.some.injEq] at h; subst h
    simp only [RelL] at hr; subst hr
    exact ⟨rfl, rfl⟩
  | 0, _ :: _, xs, vs, h, hs, hr => by simp [decN] at h
  | n + 1, l, xs, vs, h, hs, hr => by
    simp only [decN] at h
    cases h1 : dec t l with
    | none => rw [h1] at h; cases h
    | some p =>
      obtain ⟨x, r⟩ := p
      rw [h1] at h
      simp only at h
      cases h2 : decN t n r with
      | none => rw [h2] at h; cases h
      | some ys =>
        rw [h2] at h
        simp only [Option.some.injEq] at h
        subst h
        obtain ⟨v1, v2, rfl, g1, g2, g3⟩ := dec_sound h1 hs hr
        have := decN_sound h2 g3 g2
        exact ⟨⟨v1, v2, rfl, g1, this.1⟩, by simp [this.2]⟩

section push
variable {P : Program} {B : Base} {E : Env} {m : List Blk} {w : World} (hS : SatM B E m w)
include hS
/-- A new row of one's own. -/
theorem pushRow_sound {e : TypeId} {t : Ty} {ys : List (den t)} {src : List Nat} {K : AK} (h : pushRow e t ys src m K) {w' : World} {v' : Value} {vs : List Value} (hy : DRepL (E.ok src) w t ys vs)
    (hown : w'.ownsRow 0 e (nc t) v' ys.length vs) (hg : w.grownBy w' none) (hb : v'.ownBlock = some w.heap.size) (hl : ys.length ≤ LIM) :
    ∃ out m' k1 k2 E', K (.ret out) m' k1 k2 ∧ SatM B E' m' w' ∧ EKeep E w E' w' k1 k2 ∧ Rel E' w' out v' := by
  unfold pushRow at h
  split at h
  · exact h.elim
  · rename_i hm
    rw [mlen_eq] at h hm
    rw [app_eq] at h
    obtain ⟨E1, g1, g2, g3⟩ := hS.pushNil e t
    have hm1 : mget (killM [m.length] [] m ++ [.row e t [] []]) m.length = .row e t [] [] := by
      have : ∀ (l : List Blk) (b : Blk), mget (l ++ [b]) l.length = b := by
        intro l b
        induction l with
        | nil => rfl
        | cons a l ih => simpa [mget] using ih
      have := this (killM [m.length] [] m) (.row e t [] [])
      rwa [killM_length] at this
    have hob : (E1.sl m.length).ownBlock = none := by rw [g3]; rfl
    obtain ⟨E', g4, g5, g6⟩ := g1.grow hm1 (by simp) (memb_false hm) (cells := []) rfl (hy.keep (g2.2.2 src (fun _ _ h => by cases h))) (by simpa using hown) (by rw [hob]; exact hg) (.inr hb) (by simpa using hl)
    refine ⟨_, _, _, _, E', h, g4, (g2.trans g5).sub (fun i hi => by simpa using hi) (fun i hi => by simpa using hi), g6.symm, ?_⟩
    rcases hown.2 with ⟨h5, _⟩ | ⟨g, c, cur, h5, _⟩
    · exact ⟨none, 0, 0, h5⟩
    · exact ⟨_, _, c, h5⟩
end push

theorem lget_app : ∀ {l m : List AV} {j : Nat}, lget (app l m) j = if j < l.length then lget l j else lget m (j - l.length)
  | [], m, j => by simp [Sx.app]
  | a :: l, m, 0 => by simp [Sx.app, lget]
  | a :: l, m, j + 1 => by
    simp only [Sx.app, lget, List.length_cons]
    rw [lget_app]
    by_cases h : j < l.length
    · rw [if_pos h, if_pos (by omega)]
    · rw [if_neg h, if_neg (by omega)]; congr 1; omega
theorem repL_len {z : List AV} : ∀ n, (repL z n).length = n * z.length
  | 0 => by simp [repL]
  | n + 1 => by simp [repL, app_eq, repL_len n, Nat.add_mul, Nat.add_comm]
theorem repL_get {z : List AV} (hz : 0 < z.length) : ∀ (n : Nat) {j : Nat}, j < n * z.length → lget (repL z n) j = lget z (j % z.length)
  | 0, j, h => by simp at h
  | n + 1, j, h => by
    simp only [repL]
    rw [lget_app]
    by_cases hj : j < z.length
    · rw [if_pos hj, Nat.mod_eq_of_lt hj]
    · rw [if_neg hj, repL_get hz n (by rw [Nat.add_mul, Nat.one_mul] at h; omega), Nat.mod_eq_sub_mod (a := j) (by omega)]
theorem relL_at {E : Env} {w : World} : ∀ {l : List AV} {vs : List Value}, l.length = vs.length → (∀ j v, vs[j]? = some v → Rel E w (lget l j) v) → RelL E w l vs
  | [], [], _, _ => rfl
  | a :: l, v :: vs, h, hg => ⟨v, vs, rfl, hg 0 v rfl, relL_at (by simpa using h) fun j u hj => by simpa [lget] using hg (j + 1) u (by simpa using hj)⟩
  | [], _ :: _, h, _ => by simp at h
  | _ :: _, [], h, _ => by simp at h
theorem relL_zeros {E : Env} {w : World} {z : List AV} {zs : List Value} (h : RelL E w z zs) (hz : 0 < z.length) (n : Nat) :
    RelL E w (repL z n) ((List.range (n * zs.length)).map fun i => zs.toArray[i % zs.toArray.size]!) := by
  have hl := h.length
  refine relL_at (by simp [repL_len, hl]) fun j v hj => ?_
  rw [List.getElem?_map] at hj
  cases hr : (List.range (n * zs.length))[j]? with
  | none => rw [hr] at hj; cases hj
  | some k =>
    rw [hr] at hj
    obtain ⟨hk1, hk2⟩ := List.getElem?_eq_some_iff.1 hr
    simp at hk1 hk2
    subst hk2
    rw [repL_get hz n (by rw [← hl]; exact hk1)]
    simp only [Option.map_some, Option.some.injEq] at hj
    have hm : j % z.length < z.length := Nat.mod_lt _ hz
    obtain ⟨u, hu1, hu2⟩ := h.get? (j % z.length) hm
    have : v = u := by
      rw [← hj]
      simp only [List.size_toArray, hl]
      have hlt : j % z.length < zs.length := by rw [hl]; exact hm
      rw [List.getElem?_eq_getElem hlt] at hu1
      cases hu1
      simp [getElem!_pos, hlt]
    rw [this]; exact hu2

/-! ### rows made, elements written -/
theorem dec_app : ∀ {t : Ty} {l r k : List AV} {x : den t}, dec t l = some (x, r) → dec t (Sx.app l k) = some (x, Sx.app r k)
  | .int kk, l, r, k, x, h => by
    cases l with
    | nil => simp [dec] at h
    | cons a l =>
      cases a <;> simp only [dec, reduceCtorEq] at h
      simp only [Sx.app, dec]
      split at h
      · rename_i hk; cases h; rw [if_pos hk]
      · cases h
  | .bool, l, r, k, x, h => by
    cases l with
    | nil => simp [dec] at h
    | cons a l =>
      cases a <;> simp only [dec, reduceCtorEq] at h
      cases h; rfl
  | .str, l, r, k, x, h => by
    cases l with
    | nil => simp [dec] at h
    | cons a l =>
      cases a <;> simp only [dec, reduceCtorEq] at h
      cases h; rfl
  | .list t, l, r, k, x, h => by
    cases l with
    | nil => simp [dec] at h
    | cons a l =>
      cases a <;> simp only [dec, reduceCtorEq] at h
      · cases h; rfl
      · simp only [Sx.app, dec]
        split at h
        · rename_i hc; cases h; first | rfl | rw [hc]
        · cases h
  | .prod a b, l, r, k, x, h => by
    simp only [dec] at h ⊢
    cases h1 : dec a l with
    | none => rw [h1] at h; cases h
    | some p =>
      obtain ⟨y, r1⟩ := p
      rw [h1] at h
      simp only at h
      rw [dec_app h1]
      simp only
      cases h2 : dec b r1 with
      | none => rw [h2] at h; cases h
      | some q =>
        obtain ⟨z, r2⟩ := q
        rw [h2] at h
        cases h
        rw [dec_app h2]
theorem decN_repL {t : Ty} {z : List AV} {x : den t} (h : dec t z = some (x, [])) : ∀ n, decN t n (repL z n) = some (List.replicate n x)
  | 0 => rfl
  | n + 1 => by
    simp only [repL, decN, dec_app h, Sx.app, decN_repL h n, List.replicate_succ]
theorem srcsL_lput {j : Nat} : ∀ {cs : List AV} {l : List AV} {n : Nat}, j ∈ srcsL (lput l n cs) → j ∈ srcsL l ∨ j ∈ srcsL cs := by
  have hset : ∀ {l : List AV} {n : Nat} {v : AV}, j ∈ srcsL (lset l n v) → j ∈ srcsL l ∨ j ∈ srcsV v := by
    intro l
    induction l with
    | nil => intro n v h; exact .inl h
    | cons a l ih =>
      intro n v h
      cases n with
      | zero =>
        simp only [lset, srcsL, mem_uniN] at h ⊢
        rcases h with h | h
        · exact .inr h
        · exact .inl (.inr h)
      | succ n =>
        simp only [lset, srcsL, mem_uniN] at h ⊢
        rcases h with h | h
        · exact .inl (.inl h)
        · rcases ih h with h | h
          · exact .inl (.inr h)
          · exact .inr h
  intro cs
  induction cs with
  | nil => intro l n h; exact .inl h
  | cons c cs ih =>
    intro l n h
    simp only [lput] at h
    simp only [srcsL, mem_uniN]
    rcases ih h with h | h
    · rcases hset h with h | h
      · exact .inl h
      · exact .inr (.inl h)
    · exact .inr (.inr h)
theorem enc_srcs {src : List Nat} {j : Nat} : ∀ {t : Ty} {x : den t}, j ∈ srcsL (enc src t x) → j ∈ src
  | .int _, x, h => by simp [enc, srcsL, srcsV, uniN] at h
  | .bool, x, h => by simp [enc, srcsL, srcsV, uniN] at h
  | .str, x, h => by simp [enc, srcsL, srcsV, uniN] at h
  | .list t, x, h => by
    simp only [enc, srcsL, srcsV, mem_uniN] at h
    rcases h with h | h
    · exact h
    · cases h
  | .prod a b, x, h => by
    have happ : ∀ (l k : List AV), j ∈ srcsL (Sx.app l k) → j ∈ srcsL l ∨ j ∈ srcsL k := by
      intro l
      induction l with
      | nil => intro k h; exact .inr h
      | cons c l ih =>
        intro k h
        simp only [Sx.app, srcsL, mem_uniN] at h ⊢
        rcases h with h | h
        · exact .inl (.inl h)
        · rcases ih k h with h | h
          · exact .inl (.inr h)
          · exact .inr h
    rcases happ _ _ h with h | h
    · exact enc_srcs h
    · exact enc_srcs h
theorem DRepL.put {S : Nat → Prop} {w : World} {t : Ty} {y : den t} {C : List Value} (hy : DRep S w t y C) : ∀ {xs : List (den t)} {vs : List Value} {k : Nat}, DRepL S w t xs vs → k < xs.length →
    ∃ A C0 D, vs = A ++ (C0 ++ D) ∧ A.length = k * nc t ∧ C0.length = nc t ∧ DRep S w t (xs.getD k (dflt t)) C0 ∧ DRepL S w t (xs.set k y) (A ++ (C ++ D))
  | [], vs, k, h, hk => by simp at hk
  | x :: xs, vs, 0, h, hk => by
    obtain ⟨v, us, rfl, h1, h2⟩ := h
    exact ⟨[], v, us, rfl, by simp, h1.length, h1, ⟨C, us, rfl, hy, h2⟩⟩
  | x :: xs, vs, k + 1, h, hk => by
    obtain ⟨v, us, rfl, h1, h2⟩ := h
    obtain ⟨A, C0, D, rfl, hA, hC, hx, hr⟩ := DRepL.put hy (k := k) h2 (by simpa using hk)
    exact ⟨v ++ A, C0, D, by simp, by simp [hA, h1.length, Nat.add_mul, Nat.add_comm], hC, by simpa using hx, ⟨v, A ++ (C ++ D), by simp, h1, hr⟩⟩
theorem DRepL.at {S : Nat → Prop} {w : World} {t : Ty} : ∀ {xs : List (den t)} {vs : List Value} {k : Nat}, DRepL S w t xs vs → k < xs.length →
    ∃ A C0 D, vs = A ++ (C0 ++ D) ∧ A.length = k * nc t ∧ C0.length = nc t ∧ DRep S w t (xs.getD k (dflt t)) C0
  | [], vs, k, h, hk => by simp at hk
  | x :: xs, vs, 0, h, hk => by
    obtain ⟨v, us, rfl, h1, h2⟩ := h
    exact ⟨[], v, us, rfl, by simp, h1.length, h1⟩
  | x :: xs, vs, k + 1, h, hk => by
    obtain ⟨v, us, rfl, h1, h2⟩ := h
    obtain ⟨A, C0, D, rfl, hA, hC, hx⟩ := DRepL.at (k := k) h2 (by simpa using hk)
    exact ⟨v ++ A, C0, D, by simp, by simp [hA, h1.length, Nat.add_mul, Nat.add_comm], hC, by simpa using hx⟩

section rowset
variable {P : Program} {B : Base} {E : Env} {m : List Blk} {w : World}
/-- Some cells of an element of a row of one's own, written. -/
theorem SatM.rowSet (hS : SatM B E m w) {i : Nat} {e : TypeId} {t : Ty} {xs : List (den t)} {src : List Nat} (hm : mget m i = .row e t xs src) (hi : i ∉ src) {k off b0 : Nat} (hk : k < xs.length) (hb0 : E.bl i = some b0)
    {cs : List AV} {us : List Value} (hoff : off + us.length ≤ nc t) (hix : i ∉ srcsL cs) (hru : ∀ cur : List Value, RelL E (w.setRow b0 cur.toArray) cs us)
    {y : den t} (hdec : dec t (lput (enc src t (xs.getD k (dflt t))) off cs) = some (y, [])) (hfl : ∀ v ∈ us, v.oneCell' = true) :
    ∃ w', (storeCells ⟨b0, k * nc t + off, none⟩ us 0).run P w = .ok () w' ∧ SatM B E (mset (killM [] [i] m) i (.row e t (xs.set k y) (uniN src (srcsL cs)))) w' ∧ EKeep E w E w' [] [i] := by
  obtain ⟨hl, cells, hown, hbl, hd⟩ := row_sat hS hm
  have hcl : cells.length = xs.length * nc t := hd.length
  rcases hown.2 with ⟨hv, _⟩ | ⟨g, cap, cur, hv, hg0, hg, hnc, hcap, hcs, htk⟩
  · rw [hbl, hv] at hb0; cases hb0
  · have hgb : g = b0 := by rw [hbl, hv] at hb0; simpa [Value.ownBlock] using hb0
    subst hgb
    obtain ⟨A, C0, D, rfl, hA, hC, hx⟩ := hd.at hk
    have hrest : cur.toList = (A ++ (C0 ++ D)) ++ cur.toList.drop (xs.length * nc t) := by rw [← htk, List.take_append_drop]
    generalize hrs : cur.toList.drop (xs.length * nc t) = rest at hrest
    have hsz : cur.size = (A ++ (C0 ++ D)).length + rest.length := by rw [← Array.length_toList, hrest, List.length_append]
    have hle : k * nc t + off + us.length ≤ cur.size := by
      simp only [List.length_append] at hsz; omega
    have hst := run_storeCells_at P g (k * nc t + off) e us 0 cur w hg (by simpa using hle) hfl
    simp only [Nat.add_zero] at hst
    have hcur : cur.toList.take (k * nc t + off) ++ us ++ cur.toList.drop (k * nc t + off + us.length) = (A ++ ((C0.take off ++ us ++ C0.drop (off + us.length)) ++ D)) ++ rest := by
      rw [hrest]
      have e1 : (A ++ (C0 ++ D) ++ rest).take (k * nc t + off) = A ++ C0.take off := by
        rw [List.append_assoc, List.take_append, ← hA, List.take_of_length_le (by omega), Nat.add_sub_cancel_left, List.append_assoc, List.take_append_of_le_length (by omega)]
      have e2 : (A ++ (C0 ++ D) ++ rest).drop (k * nc t + off + us.length) = C0.drop (off + us.length) ++ (D ++ rest) := by
        rw [List.append_assoc, List.drop_append, ← hA, List.drop_of_length_le (by omega), Nat.add_assoc, Nat.add_sub_cancel_left, List.append_assoc, List.drop_append_of_le_length (by omega), List.nil_append]
      rw [e1, e2]
      simp [List.append_assoc]
    rw [hcur] at hst
    refine ⟨_, hst, ?_⟩
    generalize hcn : (A ++ ((C0.take off ++ us ++ C0.drop (off + us.length)) ++ D)) ++ rest = curN
    have hw : ∀ b, b ≠ g → (w.setRow g curN.toArray).heap[b]? = w.heap[b]? := fun b hb => setRow_other w g b _ hb
    have hkp := EKeep.write hb0 hw
    have hsrc : ∀ j ∈ src, j ∉ [i] := fun j hj hc => by simp at hc; subst hc; exact hi hj
    have hmono : ∀ {S' : List Nat}, (∀ j ∈ S', j ∈ uniN src (srcsL cs)) → ∀ b, E.ok S' b → E.ok (uniN src (srcsL cs)) b := fun h b hb => Env.ok_mono h hb
    have hxN : DRep (E.ok src) (w.setRow g curN.toArray) t (xs.getD k (dflt t)) C0 := hx.keep (hkp.2.2 src hsrc)
    have hrel := (rel_enc hxN).splice (hru curN) off (by rw [← (hru curN).length, ← (rel_enc hxN).length, hC]; exact hoff)
    obtain ⟨v1, v2, hv12, hdy, hr2, _⟩ := dec_sound (src := uniN src (srcsL cs)) hdec (fun j hj => by
      rcases srcsL_lput hj with h | h
      · exact mem_uniN.2 (.inl (enc_srcs h))
      · exact mem_uniN.2 (.inr h)) hrel
    simp only [RelL] at hr2
    subst hr2
    rw [List.append_nil] at hv12
    have hdN : DRepL (E.ok (uniN src (srcsL cs))) (w.setRow g curN.toArray) t xs (A ++ (C0 ++ D)) :=
      (hd.keep (hkp.2.2 src hsrc)).keep fun b hb _ => ⟨Env.ok_mono (fun j hj => mem_uniN.2 (.inl hj)) hb, fun _ _ h => h⟩
    obtain ⟨A', C', D', hdec2, hA', hC', _, hput⟩ := hdN.put hdy hk
    have hAA : A = A' ∧ C0 ++ D = C' ++ D' := List.append_inj hdec2 (by rw [hA, hA'])
    have hCC : C0 = C' ∧ D = D' := List.append_inj hAA.2 (by rw [hC, hC'])
    obtain ⟨rfl, _⟩ := hAA
    obtain ⟨rfl, rfl⟩ := hCC
    rw [← hv12] at hput
    have hlenN : (A ++ ((C0.take off ++ us ++ C0.drop (off + us.length)) ++ D)).length = xs.length * nc t := by
      rw [← hcl]
      simp only [List.length_append, List.length_take, List.length_drop]
      omega
    refine ⟨⟨fun j bk hb => ?_, fun j hj => ?_, hS.inj, fun j b hj => ?_, hS.os, hS.tape, hS.output, ?_, fun b hb hF => ?_, hS.T, hS.FT⟩, hkp⟩
    · rcases mset_get hb with ⟨rfl, rfl⟩ | ⟨hne, hb⟩
      · refine ⟨by simpa using hl, _, ⟨by rw [hlenN, List.length_set], .inr ⟨g, cap, curN.toArray, by rw [hv, List.length_set], hg0, setRow_heap w g _ _ e _ hg, by rw [List.length_set]; exact hnc, hcap, ?_, ?_⟩⟩, hbl, hput⟩
        · rw [← hcs, hsz, ← hcn]
          simp only [List.size_toArray, List.length_append, List.length_take, List.length_drop]
          omega
        · rw [List.length_set, ← hcn]
          exact List.take_left' hlenN
      · obtain ⟨bk0, hb1, rfl⟩ := killM_get hb
        refine (hS.blk j bk0 hb1).keep hkp (fun b hbl' => hw b ?_) rfl rfl
        intro e'; subst e'
        exact hne (hS.inj j i b hbl' hb0)
    · rw [mset_length, killM_length] at hj; exact hS.out j hj
    · have := hS.old j b hj; simpa using this
    · simpa using hS.size
    · have hlt := hS.old i g hb0
      rw [hw b]; exact hS.frame b hb hF
      intro e'; subst e'
      rcases hlt.1 with h | h
      · exact hF h
      · omega
end rowset

section lop
variable {P : Program} {tab : Tab} {call : ACall} {B : Base} {E : Env} {m : List Blk} {w : World} (hT : TabOK P tab) (hC : CallOK P call) (hS : SatM B E m w)
include hT hC hS

omit hT hC hS in
theorem run_append_zeros {P : Program} (w : World) (t u ty e : TypeId) (i : TypeInfo) (z : Value) (ku : IntKind) (ht : P.underlying t = some (.slice e)) (hu : P.underlying u = some (.int ku)) (hi : P.info? e = some i) (hz : i.zero = some z)
    (hzs : z.cells.size = i.size) (hsz : 0 < i.size) (k : IntKind) (n : Nat) (h0 : 0 < n) (hn : n ≤ 1099511627776) (hb : i.bytes ≤ 128) :
    ∃ v' w', (Builtin.append_ #[t, u] ty #[.slice none 0 0, .int k (n : Int)]).run P w = .ok v' w' ∧ w'.ownsRow 0 e i.size v' n (Builtin.zeroCells z.cells n).toList ∧ w.grownBy w' none ∧ v'.ownBlock = some w.heap.size := by
  have hm : n ≤ maxLen := by simp only [maxLen]; omega
  have hw : IntKind.wrap .i64 (n : Int) = (n : Int) := by
    have h64 : (2 : Int) ^ IntKind.bits .i64 = 18446744073709551616 := by decide
    have h63 : (2 : Int) ^ (IntKind.bits .i64 - 1) = 9223372036854775808 := by decide
    simp only [IntKind.wrap, h64, h63, show IntKind.signed .i64 = true from rfl, Bool.true_and]
    split <;> rename_i h <;> simp at h <;> omega
  have hle : n * i.bytes ≤ 1099511627776 * 128 := Nat.mul_le_mul hn hb
  have hle' : ((n : Int) * (i.bytes : Int)) ≤ 140737488355328 := by
    rw [← Int.natCast_mul]; omega
  have hnb : ¬ ((n : Int) * (i.bytes : Int) > 281474976710656) := by omega
  have h1 : ¬ ((n : Int) < 0) := by omega
  have hcap : Builtin.nextslicecap n 0 = n := by unfold Builtin.nextslicecap; rw [if_pos (by omega)]
  have h48' : ¬ (281474976710656 < Builtin.nextslicecap n 0 * i.bytes) := by rw [hcap]; omega
  have h63' : ¬ (9223372036854775807 < (n : Int)) := by omega
  have hns : ¬ (n * i.size = 0) := by
    have := Nat.mul_pos h0 hsz
    omega
  refine ⟨.slice (some ⟨w.heap.size, 0, none⟩) n (grownCap w n 0 e), w.drew.alloc (.cells (Builtin.zeroCells z.cells n ++ Builtin.zeroCells z.cells (grownCap w n 0 e - n)) e), ?_, ?_, ?_, rfl⟩
  · have hn0 : n ≠ 0 := by omega
    have hs0 : i.size ≠ 0 := by omega
    simp [Builtin.append_, run_underlying ht, run_underlying hu, sizeOf, typeInfo, zeroValue, hi, hz, asInt, asIntOf, hw, h1, hnb, hn0, hs0, h63', h48', Question.forced, run_firstCells_none, newRow, grownCap]
    exact fun h => absurd h hns
  · have hge := grownCap_ge w n 0 e
    have hcm : grownCap w n 0 e ≤ maxLen := grownCap_le_maxLen w n 0 e hm
    have hl : (Builtin.zeroCells z.cells n).toList.length = n * i.size := by rw [Array.length_toList, size_zeroCells, hzs]
    refine ⟨hl, .inr ⟨w.heap.size, _, _, rfl, Nat.zero_le _, heap_alloc_new w.drew _, hge, hcm, ?_, ?_⟩⟩
    · rw [Array.size_append, size_zeroCells, size_zeroCells, hzs, ← Nat.add_mul]
      congr 1
      omega
    · rw [Array.toList_append, ← hl]
      exact List.take_left
  · exact ⟨rfl, rfl, rfl, by simp, fun k hk _ => heap_alloc_old w.drew _ hk⟩
/-- **The loud operations.** -/
theorem lop_sound {o : Oper} {ρA : Opd} {ρ : Operand → Value} (hρ : ∀ x, Rel E w (ρA x) (ρ x)) {K : AK} (h : lop tab call o ρA m K)
    {next : Value → World → Prop} {pan : List PanicEntry → World → Prop}
    (hn : ∀ out m' k1 k2 E' w', K out m' k1 k2 → SatM B E' m' w' → EKeep E w E' w' k1 k2 →
      (match out with | .ret av => ∀ v, Rel E' w' av v → next v w' | .panic av => ∀ v, Rel E' w' av v → pan [{ v := v, recovered := false }] w')) :
    uponV P next pan ((execOp ρ o).run P w) := by
  have pushed : ∀ {cs : List AV} {vs : List Value} (T : TypeId), RelL E w cs vs → K (.ret (.ptr (mlen m) 0)) (app m [.var cs]) [] [] →
      next (.pointer (some ⟨w.heap.size, 0, none⟩)) (w.alloc (.cells vs.toArray T)) := by
    intro cs vs T hr hK
    obtain ⟨E', h1, h2, h3⟩ := hS.alloc hr T
    rw [mlen_eq, app_eq] at hK
    exact hn _ _ _ _ E' _ hK h1 h2 _ (rel_ptr h3)
  unfold lop at h
  unfold execOp
  cases hop : o.op <;> rw [hop] at h <;> simp only at h ⊢ <;> try exact h.elim
  case alloc t =>
    cases ht : tlook tab t with
    | none => rw [ht] at h; exact h.elim
    | some ti =>
      rw [ht] at h
      simp only at h
      cases hz : cells? (ofV ti.zero) with
      | none => rw [hz] at h; exact h.elim
      | some cs =>
        rw [hz] at h
        simp only at h
        obtain ⟨vs, hvs, hr⟩ := Rel.cells (rel_ofV E w ti.zero) hz
        have := pushed t hr h
        simpa [Instr.alloc, (hT t ti ht).zeroValue w, newVar, newRow, hvs, uponV] using this
  case box t x =>
    cases hz : cells? (ρA x) with
    | none => rw [hz] at h; exact h.elim
    | some cs =>
      rw [hz] at h
      simp only at h
      obtain ⟨vs, hvs, hr⟩ := Rel.cells (hρ x) hz
      have := pushed t hr h
      simpa [Instr.box, newVar, newRow, hvs, uponV] using this
  case buildSlice t len parts =>
    unfold buildSl at h
    split at h
    · rename_i e hk
      obtain ⟨d, hd, hkd⟩ := kind_ok hT hk (by simp)
      cases d <;> simp only [tkOf, reduceCtorEq, TK.slice.injEq] at hkd
      rw [hkd] at hd
      cases ht : tlook tab e with
      | none => rw [ht] at h; exact h.elim
      | some ti =>
        rw [ht] at h
        simp only at h
        have hent := hT e ti ht
        cases hz : cells? (ofV ti.zero) with
        | none => rw [hz] at h; exact h.elim
        | some z =>
          rw [hz] at h
          simp only at h
          split at h
          · rename_i cells hc hfi
            have hc1 := andb_split hc
            have hc2 := andb_split hc1.2
            have hle := ble_true hc1.1
            have hzl : z.length = ti.size := by rw [← llen_eq]; exact beq_true hc2.1
            have hpos : 0 < ti.size := blt_lt hc2.2
            obtain ⟨zs, hzs, hrz⟩ := Rel.cells (rel_ofV E w ti.zero) hz
            have hzsl : zs.length = ti.size := by rw [hrz.length, hzl]
            obtain ⟨us, hfill, hrel⟩ := fillE_sound (relP_evp hρ parts.toList) (relL_zeros hrz (by rw [hzl]; exact hpos) len) hfi
            have husl : us.length = len * ti.size := by
              have h1 : ∀ {parts : List (Nat × AV)} {cells out : List AV}, fillE ti.size cells parts = some out → out.length = cells.length := by
                intro parts
                induction parts with
                | nil => intro cells out h; simp only [fillE, Option.some.injEq] at h; rw [h]
                | cons p parts ih =>
                  intro cells out h
                  obtain ⟨i, v⟩ := p
                  simp only [fillE] at h
                  repeat' (split at h)
                  all_goals first | cases h | (rw [ih h, lput_length])
              rw [hrel.length, h1 hfi, repL_len, hzl]
            have hparts : (Array.map (fun x : Nat × Operand => (x.1, ρ x.2)) parts).toList = parts.toList.map fun x => (x.1, ρ x.2) := by simp
            have hrun : (Instr.buildSlice t len (Array.map (fun x : Nat × Operand => (x.1, ρ x.2)) parts)).run P w = .ok (.slice (some ⟨w.heap.size, 0, none⟩) len len) (w.alloc (.cells us.toArray e)) := by
              have hnot : ¬ len * ti.size > 2 ^ 24 := by omega
              have harr : ∀ zz : Array Value, (len * ti.size = 0 ∨ zz = zs.toArray) → (Array.range (len * ti.size)).map (fun i => zz[i % zz.size]!) = ((List.range (len * zs.length)).map fun i => zs.toArray[i % zs.toArray.size]!).toArray := by
                intro zz hzz
                rw [hzsl]
                rcases hzz with h0 | rfl
                · simp [h0]
                · apply Array.ext'
                  simp
              simp only [Instr.buildSlice, Sem.run_bind, Go.underlying, run_program, hd, Sem.run_pure, Result.andThen_ok, hent.sizeOf w]
              rw [if_neg hnot]
              split
              · rename_i h0
                simp only [Sem.run_bind, Sem.run_pure, Result.andThen_ok, harr _ (.inl h0), hparts, hfill, newRow]
                simp
              · simp only [Sem.run_bind, Sem.run_pure, Result.andThen_ok, hent.zeroValue w, hzs, harr _ (.inr rfl), hparts, hfill, newRow]
                simp
            have hrow : (w.alloc (.cells us.toArray e)).ownsRow 0 e ti.size (.slice (some ⟨w.heap.size, 0, none⟩) len len) len us := by
              refine ⟨husl, .inr ⟨w.heap.size, len, us.toArray, rfl, Nat.zero_le _, heap_alloc_new w _, Nat.le_refl _, ?_, by simpa using husl, by simp [← husl]⟩⟩
              have : len ≤ len * ti.size := Nat.le_mul_of_pos_right _ hpos
              simp only [maxLen]; omega
            have plain : K (.ret (.vsl (mlen m) 0 len len)) (app m [.var cells]) [] [] → uponV P next pan ((do pure (Next.value (← Instr.buildSlice t len (Array.map (fun x : Nat × Operand => (x.1, ρ x.2)) parts))) : Sem Next).run P w) := by
              intro h
              obtain ⟨E', h1, h2, h3⟩ := hS.alloc hrel e
              rw [mlen_eq, app_eq] at h
              have := hn _ _ _ _ E' _ h h1 h2 (.slice (some ⟨w.heap.size, 0, none⟩) len len) ⟨_, h3, rfl⟩
              simpa [hrun, uponV] using this
            split at h
            · rename_i T hty
              split at h
              · rename_i ys hb hde
                have hnc := beq_true hb
                have hdn := decN_sound (src := srcsL (mapAV (freeze m 4) cells)) hde (fun _ h => h) (mapAV_rel (fun h => freeze_rel hS 4 h) hrel)
                obtain ⟨out, m', k1, k2, E', h1, h2, h3, h4⟩ := pushRow_sound hS h hdn.1 (w' := w.alloc (.cells us.toArray e)) (v' := .slice (some ⟨w.heap.size, 0, none⟩) len len) (by rw [hdn.2, ← hnc]; exact hrow) (World.grownBy_alloc w _ none) rfl (by
                  rw [hdn.2]
                  have : len ≤ len * ti.size := Nat.le_mul_of_pos_right _ hpos
                  unfold LIM; omega)
                have := hn _ _ _ _ E' _ h1 h2 h3 _ h4
                simpa [hrun, uponV] using this
              · exact plain h
            · exact plain h
          · exact h.elim
    · exact h.elim
  case makeSlice t l c =>
    have hl := hρ l
    have hcc := hρ c
    split at h
    · rename_i e k1 n k2 n' hk h1 h2
      rw [h1] at hl
      rw [h2] at hcc
      obtain ⟨hl, hn1⟩ := hl
      obtain ⟨hcc, hn2⟩ := hcc
      obtain ⟨d, hd, hkd⟩ := kind_ok hT hk (by simp)
      cases d <;> simp only [tkOf, reduceCtorEq, TK.slice.injEq] at hkd
      rw [hkd] at hd
      cases ht : tlook tab e with
      | none => rw [ht] at h; exact h.elim
      | some ti =>
        rw [ht] at h
        simp only at h
        have hent := hT e ti ht
        split at h
        · rename_i z T hz hty
          split at h
          · rename_i x hc hde
            obtain ⟨rfl, h0, hfit, h⟩ := h
            have hc1 := andb_split hc
            have hc2 := andb_split hc1.2
            have hc3 := andb_split hc2.2
            have hnc := beq_true hc1.1
            have hzl : z.length = ti.size := by rw [← llen_eq]; exact beq_true hc2.1
            have hpos : 0 < ti.size := blt_lt hc3.1
            have hby := ble_true hc3.2
            obtain ⟨zs, hzs, hrz⟩ := Rel.cells (rel_ofV E w ti.zero) hz
            have hzsl : zs.length = ti.size := by rw [hrz.length, hzl]
            obtain ⟨inf, hi1, hi2, hi3, hi4⟩ := hent.info
            have h0 : 0 ≤ n' := h0
            have hfit : n' ≤ 1099511627776 := hfit
            obtain ⟨k, rfl⟩ : ∃ k : Nat, n' = (k : Int) := ⟨n'.toNat, by omega⟩
            have hk1 : k ≤ 1099511627776 := by omega
            obtain ⟨w', hrun, hown, hg⟩ := run_make_full (P := P) w 0 t e inf ti.zero ti.size hd hi1 hi4 hi2 k1 k2 k (by
              rw [hi3]
              have : ti.bytes * k ≤ 128 * 1099511627776 := Nat.mul_le_mul hby hk1
              omega) (by simp only [maxLen]; omega) (Nat.zero_le _)
            have hmc : (madeCells ti.zero.cells (k * ti.size)).toList = (List.range (k * zs.length)).map fun i => zs.toArray[i % zs.toArray.size]! := by
              rw [hzs, hzsl]; simp [madeCells]
            have hdn := decN_sound (src := srcsL z) (decN_repL hde k) (fun j hj => by
              have : ∀ n, j ∈ srcsL (repL z n) → j ∈ srcsL z := by
                intro n
                induction n with
                | zero => intro h; cases h
                | succ n ih =>
                  intro h
                  have happ : ∀ (l k : List AV), j ∈ srcsL (Sx.app l k) → j ∈ srcsL l ∨ j ∈ srcsL k := by
                    intro l
                    induction l with
                    | nil => intro k h; exact .inr h
                    | cons c l ih =>
                      intro k h
                      simp only [Sx.app, srcsL, mem_uniN] at h ⊢
                      rcases h with h | h
                      · exact .inl (.inl h)
                      · rcases ih k h with h | h
                        · exact .inl (.inr h)
                        · exact .inr h
                  rcases happ _ _ h with h | h
                  · exact h
                  · exact ih h
              exact this k hj) (relL_zeros hrz (by rw [hzl]; exact hpos) k)
            have hrep : (repI (k : Int) x : List (den T)) = List.replicate k x := by simp [repI]
            rw [hrep] at h
            obtain ⟨out, m', j1, j2, E', g1, g2, g3, g4⟩ := pushRow_sound hS h hdn.1 (w' := w') (v' := .slice (some ⟨w.heap.size, 0, none⟩) k k) (by
              rw [List.length_replicate, ← hnc, ← hmc]; exact hown) hg rfl (by rw [List.length_replicate]; unfold LIM; omega)
            have := hn _ _ _ _ E' _ g1 g2 g3 _ g4
            simpa [hl, hcc, hrun, uponV] using this
          · exact h.elim
        · exact h.elim
    · exact h.elim
  case slice t x lo hi mx =>
    have other : (match qval tab o ρA m with | some (ps, v) => needL ps (K (.ret v) m [] []) | none => False) → uponV P next pan ((do pure (Next.value (← Instr.sliceAt t (ρ x) (lo.map ρ) (hi.map ρ) (mx.map ρ))) : Sem Next).run P w) := by
      intro h
      split at h
      · rename_i ps v hq
        have h := needL_iff.1 h
        obtain ⟨u, g1, g2⟩ := qval_sound hT hS hρ hq h.1
        unfold execOp at g1
        simp only [hop] at g1
        have := hn _ _ _ _ E w h.2 hS (EKeep.refl E w) u g2
        rw [g1]
        exact this
      · exact h.elim
    split at h
    · rename_i e i hk hx
      split at h
      · rename_i e' T xs src hm
        split at h
        · rename_i u h2 hcc
          obtain ⟨p1, p2, h⟩ := h
          unfold leI at p1 p2
          have hc1 := andb_split hcc
          have hc2 := andb_split hc1.2
          have hs := hc2.2
          have hlo' : lo = none := by cases lo with | none => rfl | some _ => simp [nop] at hc1
          have hmx' : mx = none := by cases mx with | none => rfl | some _ => simp [nop] at hc2
          subst hlo' hmx'
          have hs' : sizeT tab e = some (nc T) := by
            cases hse : sizeT tab e with
            | none => rw [hse] at hs; simp [eqO] at hs
            | some n => rw [hse] at hs; rw [beq_true hs]
          have hsz := sizeT_ok (P := P) (w := w) hT hs'
          obtain ⟨d, hd, hkd⟩ := kind_ok hT hk (by simp)
          cases d <;> simp only [tkOf, reduceCtorEq, TK.slice.injEq] at hkd
          rw [hkd] at hd
          have het : P.elem t = e := by simp [Program.elem, hd]
          have hrow := row_sat hS hm
          obtain ⟨a, cap, hv, hnil⟩ := own_len hrow
          obtain ⟨hl, cells, hown, hbl, hd0⟩ := hrow
          have hcap : xs.length ≤ cap := by
            rcases hown.2 with ⟨h1, h2⟩ | ⟨g, c, cur, h1, _, _, h2, _⟩
            · rw [h2]; exact Nat.zero_le _
            · rw [h1] at hv; cases hv; exact h2
          have hxv := hρ x
          rw [hx] at hxv
          have hxv := hxv.1
          have hlI : lenI xs = (xs.length : Int) := rfl
          rw [hlI] at p2
          have hb : (Instr.sliceBounds true xs.length cap none (hi.map ρ) none).run P w = .ok (0, u.toNat, cap) w := by
            rcases bndV_run hT hS hρ h2 with ⟨rfl, hu⟩ | ⟨x2, k2, rfl, g2⟩
            · rw [hu, hlI]; simp [Instr.sliceBounds]
            · simp [Instr.sliceBounds, g2, run_sliceBound w k2 u cap _ (by omega) (by omega)]
          have hsl : (Instr.slice t (.slice a xs.length cap) none (hi.map ρ) none).run P w = .ok (sliced a 0 u.toNat cap (nc T)) w := by
            rw [run_slice_any w t a xs.length cap (by rw [het]; exact hd), hb]
            simp only [Result.andThen_ok, het, hsz]
          obtain ⟨E', g1, g2, g3⟩ := hS.trunc hm p1 p2 hv
          have := hn _ _ _ _ E' w h g1 g2 _ g3
          simp only [hxv, hv, Option.map_none, Sem.run_bind, run_sliceAt_slice w t _ _ _ _ (by rw [het]; exact hd), hsl, Result.andThen_ok, Sem.run_pure, uponV]
          have hsd : sliced a 0 u.toNat cap (nc T) = .slice a u.toNat cap := by
            have h0 : ∀ a : Option Addr, a.map (fun x => x.add (0 * nc T)) = a := by
              intro a
              cases a with
              | none => rfl
              | some ad => simp [Addr.add]
            unfold sliced
            rw [h0]
            simp
          rw [hsd]
          exact this
        · exact h.elim
      · exact h.elim
    · exact other h
  case store t a x =>
    have ha := hρ a
    cases hv : ρA a <;> rw [hv] at h ha <;> simp only at h <;> try exact h.elim
    case rptr i T'' idx off =>
      cases hm : mget m i <;> rw [hm] at h <;> simp only at h <;> try exact h.elim
      rename_i e T xs src
      split at h
      · rename_i hTT
        subst hTT
        split at h
        · rename_i ti cs ht hz
          split at h
          · rename_i y hc hde
            obtain ⟨hin, h⟩ := h
            have hc1 := andb_split hc
            have hc2 := andb_split hc1.2
            have hc3 := andb_split hc2.2
            have hb1 := beq_true hc2.1
            have hb2 := ble_true hc3.1
            have hms := memb_orb (nob_false hc3.2)
            obtain ⟨b0, hb0, hva⟩ := ha
            have hin : 0 ≤ idx ∧ idx < (xs.length : Int) := hin
            have hk0 : ∀ us : List Value, EKeep E w E (w.setRow b0 us.toArray) [] [i] := fun us => EKeep.write hb0 fun b hb => setRow_other w b0 b _ hb
            have hfx := freeze_rel hS 4 (hρ x)
            obtain ⟨us, hus, hru⟩ := Rel.cells (hfx.keep (hk0 [])) hz
            have hall : ∀ cur : List Value, RelL E (w.setRow b0 cur.toArray) cs us := by
              intro cur
              obtain ⟨us', hus', hru'⟩ := Rel.cells (hfx.keep (hk0 cur)) hz
              have e : us' = us := by
                have := hus'.symm.trans hus
                simpa using congrArg Array.toList this
              rw [← e]; exact hru'
            have hlen : us.length = ti.size := by rw [hru.length, ← llen_eq, hb1]
            obtain ⟨w', hst, g1, g2⟩ := hS.rowSet (P := P) hm hms.1 (k := idx.toNat) (off := off) (by omega) hb0 (by rw [hru.length, ← llen_eq]; exact hb2) hms.2 hall (y := y) hde (flatL_one hru hc1.1)
            have := hn _ _ _ _ E _ h g1 g2 undef trivial
            have hsz := (hT t ti ht).sizeOf w
            have hcs : (ρ x).cells.size = ti.size := by rw [hus]; simpa using hlen
            simpa [Instr.storeAt, Instr.sureAddr, hva, storeVar, hsz, hus, hlen, hst, uponV] using this
          · exact h.elim
        · exact h.elim
      · exact h.elim
    rename_i i off
    cases hm : mget m i <;> rw [hm] at h <;> simp only at h <;> try exact h.elim
    rename_i cells
    cases ht : tlook tab t with
    | none => rw [ht] at h; exact h.elim
    | some ti =>
      rw [ht] at h
      simp only at h
      cases hz : cells? (kill [] [i] (ρA x)) with
      | none => rw [hz] at h; exact h.elim
      | some cs =>
        rw [hz] at h
        simp only at h
        split at h
        · rename_i hfl
          split at h
          · rename_i hb1
            split at h
            · rename_i hb2
              obtain ⟨b0, hb0, hva⟩ := ha
              obtain ⟨cur, T, hh, hr⟩ := var_cells hT hS hm hb0
              have hb1 := beq_true hb1
              have hb2 := ble_true hb2
              -- the value's cells, in the old world
              have hk0 : ∀ us : List Value, EKeep E w E (w.setRow b0 us.toArray) [] [i] := fun us => EKeep.write hb0 fun b hb => setRow_other w b0 b _ hb
              obtain ⟨us, hus, hru⟩ := Rel.cells ((hρ x).keep (hk0 cur)) hz
              have hlen : us.length = ti.size := by rw [hru.length, ← llen_eq, hb1]
              have hcl : cur.length = llen cells := by rw [hr.length, llen_eq]
              have hle : off + us.length ≤ cur.length := by rw [hlen, hcl, ← hb1]; exact hb2
              have hst := run_storeCells_at P b0 off T us 0 cur.toArray w hh (by simpa using hle) (flatL_one hru hfl)
              simp only [Nat.add_zero] at hst
              have hrN : RelL E (w.setRow b0 (cur.take off ++ us ++ cur.drop (off + us.length)).toArray) (lput (killL [] [i] cells) off cs) (cur.take off ++ us ++ cur.drop (off + us.length)) := by
                have h1 := hr.keep (hk0 (cur.take off ++ us ++ cur.drop (off + us.length)))
                obtain ⟨us', hus', hru'⟩ := Rel.cells ((hρ x).keep (hk0 (cur.take off ++ us ++ cur.drop (off + us.length)))) hz
                have e : us' = us := by
                  have := hus'.symm.trans hus
                  simpa using congrArg Array.toList this
                subst e
                refine h1.splice hru' off ?_
                rw [← h1.length, ← hru'.length]; exact hle
              obtain ⟨h1, h2⟩ := hS.write hb0 hh hrN
              have := hn _ _ _ _ E _ h h1 h2 undef trivial
              have hsz := (hT t ti ht).sizeOf w
              have hcs : (ρ x).cells.size = ti.size := by rw [hus]; simpa using hlen
              simpa [Instr.storeAt, Instr.sureAddr, hva, storeVar, hsz, hus, hlen, hst, uponV] using this
            · exact h.elim
          · exact h.elim
        · exact h.elim
  case call c =>
    cases hcal : c.callee <;> rw [hcal] at h <;> (try simp only at h) <;> try exact h.elim
    case builtin b =>
      split at h
      · rename_i t t' s x hat hev
        split at h
        · rename_i htt
          have htt := beq_true htt
          subst htt
          have hl := relL_evs hρ c.args.toList
          rw [hev] at hl
          obtain ⟨u, us, hus, hu, hl⟩ := hl
          obtain ⟨v, us', rfl, hx, hl⟩ := hl
          simp only [RelL] at hl
          subst hl
          have ha : c.args.map ρ = #[u, v] := by apply Array.ext'; simpa using hus
          have hb : c.argTypes = #[t, t] := by apply Array.ext'; simpa using hat
          have hres : (do let d ← resolve ρ c o.type; invoke d.target d.args : Sem Next).run P w = (do pure (Next.value (← Builtin.append_ #[t, t] o.type #[u, v])) : Sem Next).run P w := by
            simp only [resolve, hcal, ha, hb, Sem.run_bind, Sem.run_pure, Result.andThen_ok, invoke, builtin]
          rw [hres]
          unfold appendA at h
          split at h
          · rename_i e hk
            obtain ⟨d, hd, hkd⟩ := kind_ok hT hk (by simp)
            cases d <;> simp only [tkOf, reduceCtorEq, TK.slice.injEq] at hkd
            rw [hkd] at hd
            split at h
            · rename_i i
              obtain ⟨v', w', out, m', k1, k2, E', h1, h2, h3, h4, h5, _⟩ := appTo_sound (ty := o.type) hT hS hd hu hx h
              have := hn _ _ _ _ E' _ h2 h3 h4 v' h5
              simpa [h1, uponV] using this
            · split at h
              · rename_i T hty
                obtain ⟨E1, g1, g2, g3⟩ := hS.pushNil e T
                rw [mlen_eq, app_eq] at h
                obtain ⟨a, rfl, ha0⟩ := hu
                have ha1 := ha0 rfl
                subst ha1
                have hu1 : Rel E1 w (.own m.length) (.slice none 0 0) := ⟨g3.symm, none, 0, 0, rfl⟩
                obtain ⟨v', w', out, m', k1, k2, E', h1, h2, h3, h4, h5, h6, h7⟩ := appTo_sound (ty := o.type) hT g1 hd hu1 (hx.keep g2) h
                have := hn _ _ _ _ E' _ h2 h3 (by
                  subst h6 h7
                  exact (g2.trans h4).sub (fun i hi => by simpa using hi) (fun i hi => by simpa using hi)) v' h5
                simpa [h1, uponV] using this
              · split at h
                · rename_i hs _
                  obtain ⟨a, rfl, ha0⟩ := hu
                  have ha1 := ha0 rfl
                  subst ha1
                  obtain ⟨a', rfl, _⟩ := hx
                  have := hn _ _ _ _ E w h hS (EKeep.refl E w) (.slice none 0 0) ⟨none, rfl, fun _ => rfl⟩
                  have hr : (Builtin.append_ #[t, t] o.type #[.slice none 0 0, .slice a' 0 0]).run P w = .ok (.slice none 0 0) w := by
                    have hsz := sizeT_ok (P := P) (w := w) hT hs
                    have hld : ∀ a', (Go.loadCells a' 0).run P w = .ok #[] w := fun a' => run_loadCells_list (P := P) w a' [] (fun j v hj => by simp at hj)
                    cases a' <;> simp [Builtin.append_, run_underlying hd, hsz, Builtin.lenOf, Builtin.firstCells, hld]
                  simpa [hr, uponV] using this
                · exact h.elim
            · obtain ⟨a0, rfl, _⟩ := hu
              have hld : ∀ a', (Go.loadCells a' 0).run P w = .ok #[] w := fun a' => run_loadCells_list (P := P) w a' [] (fun j v hj => by simp at hj)
              split at h
              · rename_i T hty
                split at h
                · rename_i ys srcx n hel hs hby
                  have hsz := sizeT_ok (P := P) (w := w) hT hs
                  have h := ifB_iff.1 h
                  obtain ⟨ax, capx, news, hxv, hly, hy, hat⟩ := elemsAs_sound hS hx hel
                  by_cases hz : lenI ys = 0
                  · have h := h.1 (by simp [eqB, hz])
                    have hz' : ys.length = 0 := by unfold lenI at hz; omega
                    have hr : (Builtin.append_ #[t, t] o.type #[.slice a0 0 0, v]).run P w = .ok (.slice a0 0 0) w := by
                      rw [hxv, hz']
                      cases a0 <;> cases ax <;> simp [Builtin.append_, run_underlying hd, hsz, Builtin.lenOf, Builtin.firstCells, hld, storeCells]
                    have := hn _ _ _ _ E w h hS (EKeep.refl E w) (.slice a0 0 0) ⟨a0, rfl, fun h => by cases h⟩
                    simpa [hr, uponV] using this
                  · obtain ⟨hfit, h⟩ := h.2 (by simp [eqB, hz])
                    have hz' : ys.length ≠ 0 := by unfold lenI at hz; omega
                    obtain ⟨E1, g1, g2, g3⟩ := hS.pushNil e T
                    rw [mlen_eq, app_eq] at h
                    have hu1 : Rel E1 w (.own m.length) (.slice none 0 0) := ⟨g3.symm, none, 0, 0, rfl⟩
                    obtain ⟨v', w', out, m', k1, k2, E', h1, h2, h3, h4, h5, h6, h7⟩ := appTo_sound (ty := o.type) hT g1 hd hu1 (hx.keep g2) h
                    have := hn _ _ _ _ E' _ h2 h3 (by
                      subst h6 h7
                      exact (g2.trans h4).sub (fun i hi => by simpa using hi) (fun i hi => by simpa using hi)) v' h5
                    have hsame : (Builtin.append_ #[t, t] o.type #[.slice a0 0 0, v]).run P w = (Builtin.append_ #[t, t] o.type #[.slice none 0 0, v]).run P w := by
                      have hty' : ∃ ti, tlook tab e = some ti := by
                        unfold sizeT at hs
                        cases hti : tlook tab e with
                        | none => rw [hti] at hs; cases hs
                        | some ti => exact ⟨ti, rfl⟩
                      obtain ⟨ti, hti⟩ := hty'
                      obtain ⟨inf, hi, _, hib, _⟩ := (hT e ti hti).info
                      have hld' : ∀ a' w, (Go.loadCells a' 0).run P w = .ok #[] w := fun a' w => run_loadCells_list (P := P) w a' [] (fun j v hj => by simp at hj)
                      have hbe : inf.bytes ≤ 128 := by
                        have := ble_true hby
                        unfold bytesT at this
                        rw [hti] at this
                        simp only at this
                        omega
                      unfold fitA lenI at hfit
                      have hcap : Builtin.nextslicecap ys.length 0 = ys.length := by
                        unfold Builtin.nextslicecap
                        rw [if_pos (by omega)]
                      have hle : ys.length * inf.bytes ≤ 1099511627776 * 128 := Nat.mul_le_mul (by omega) hbe
                      have hbig : ¬ (9223372036854775807 < (ys.length : Int)) := by omega
                      have hno : ¬ (281474976710656 < ys.length * inf.bytes) := by omega
                      rw [hxv]
                      cases a0 with
                      | none => rfl
                      | some ad =>
                        cases ax with
                        | none => simp [Builtin.append_, run_underlying hd, hsz, Builtin.lenOf, Builtin.firstCells, hld', typeInfo, hi, hz', hbig, hcap, hno]
                        | some ad2 => simp [Builtin.append_, run_underlying hd, hsz, Builtin.lenOf, Builtin.firstCells, hld', typeInfo, hi, hz', hbig, hcap, hno]
                    simpa [hsame, h1, uponV] using this
                · exact h.elim
              · split at h
                · rename_i hs _
                  obtain ⟨a', rfl, _⟩ := hx
                  have := hn _ _ _ _ E w h hS (EKeep.refl E w) (.slice a0 0 0) ⟨a0, rfl, fun h => by cases h⟩
                  have hr : (Builtin.append_ #[t, t] o.type #[.slice a0 0 0, .slice a' 0 0]).run P w = .ok (.slice a0 0 0) w := by
                    have hsz := sizeT_ok (P := P) (w := w) hT hs
                    cases a0 <;> cases a' <;> simp [Builtin.append_, run_underlying hd, hsz, Builtin.lenOf, Builtin.firstCells, hld, storeCells]
                  simpa [hr, uponV] using this
                · exact h.elim
            · exact h.elim
          · exact h.elim
        · split at h
          · have hl := relL_evs hρ c.args.toList
            rw [hev] at hl
            obtain ⟨u, us, hus, hu, hl⟩ := hl
            obtain ⟨v, us', rfl, hx, hl⟩ := hl
            simp only [RelL] at hl
            subst hl
            have ha : c.args.map ρ = #[u, v] := by apply Array.ext'; simpa using hus
            have hb : c.argTypes = #[t, t'] := by apply Array.ext'; simpa using hat
            have hres : (do let d ← resolve ρ c o.type; invoke d.target d.args : Sem Next).run P w = (do pure (Next.value (← Builtin.append_ #[t, t'] o.type #[u, v])) : Sem Next).run P w := by
              simp only [resolve, hcal, ha, hb, Sem.run_bind, Sem.run_pure, Result.andThen_ok, invoke, builtin]
            rw [hres]
            obtain ⟨a0, rfl, ha0⟩ := hu
            have ha0 := ha0 rfl
            subst ha0
            unfold appendZ at h
            split at h
            · rename_i e ku k n hk hk'
              obtain ⟨rfl, hhas⟩ := hx
              obtain ⟨d, hd, hkd⟩ := kind_ok hT hk (by simp)
              cases d <;> simp only [tkOf, reduceCtorEq, TK.slice.injEq] at hkd
              rw [hkd] at hd
              obtain ⟨d', hd', hkd'⟩ := kind_ok hT hk' (by simp)
              cases d' <;> simp only [tkOf, reduceCtorEq, TK.int.injEq] at hkd'
              rw [hkd'] at hd'
              cases ht : tlook tab e with
              | none => rw [ht] at h; exact h.elim
              | some ti =>
                rw [ht] at h
                simp only at h
                have hent := hT e ti ht
                split at h
                · rename_i z T hz hty
                  split at h
                  · rename_i y hc hde
                    obtain ⟨h0, hfit, h⟩ := h
                    have hc1 := andb_split hc
                    have hc2 := andb_split hc1.2
                    have hc3 := andb_split hc2.2
                    have hc4 := andb_split hc3.2
                    have hnc := beq_true hc1.1
                    have hzl : z.length = ti.size := by rw [← llen_eq]; exact beq_true hc2.1
                    have hpos : 0 < ti.size := blt_lt hc3.1
                    have hby := ble_true hc4.2
                    obtain ⟨zs, hzs, hrz⟩ := Rel.cells (rel_ofV E w ti.zero) hz
                    have hzsl : zs.length = ti.size := by rw [hrz.length, hzl]
                    obtain ⟨inf, hi1, hi2, hi3, hi4⟩ := hent.info
                    have h0 : 1 ≤ n := h0
                    have hfit : n ≤ 1099511627776 := hfit
                    obtain ⟨j, rfl⟩ : ∃ j : Nat, n = (j : Int) := ⟨n.toNat, by omega⟩
                    obtain ⟨v', w', hrun, hown, hg, hob⟩ := run_append_zeros (P := P) w t t' o.type e inf ti.zero ku hd hd' hi1 hi4 (by rw [hzs, hi2]; simpa using hzsl) (by omega) k j (by omega) (by omega) (by omega)
                    have hmc : (Builtin.zeroCells ti.zero.cells j).toList = (List.range (j * zs.length)).map fun i => zs.toArray[i % zs.toArray.size]! := by
                      rw [hzs]; simp [Builtin.zeroCells]
                    have hdn := decN_sound (src := srcsL z) (decN_repL hde j) (fun q hq => by
                      have : ∀ n, q ∈ srcsL (repL z n) → q ∈ srcsL z := by
                        intro n
                        induction n with
                        | zero => intro h; cases h
                        | succ n ih =>
                          intro h
                          have happ : ∀ (l k : List AV), q ∈ srcsL (Sx.app l k) → q ∈ srcsL l ∨ q ∈ srcsL k := by
                            intro l
                            induction l with
                            | nil => intro k h; exact .inr h
                            | cons c l ih =>
                              intro k h
                              simp only [Sx.app, srcsL, mem_uniN] at h ⊢
                              rcases h with h | h
                              · exact .inl (.inl h)
                              · rcases ih k h with h | h
                                · exact .inl (.inr h)
                                · exact .inr h
                          rcases happ _ _ h with h | h
                          · exact h
                          · exact ih h
                      exact this j hq) (relL_zeros hrz (by rw [hzl]; exact hpos) j)
                    have hrep : (repI (j : Int) y : List (den T)) = List.replicate j y := by simp [repI]
                    rw [hrep] at h
                    obtain ⟨out, m', j1, j2, E', g1, g2, g3, g4⟩ := pushRow_sound hS h hdn.1 (w' := w') (v' := v') (by
                      rw [List.length_replicate, ← hnc, ← hmc, ← hi2]; exact hown) hg hob (by rw [List.length_replicate]; unfold LIM; omega)
                    have := hn _ _ _ _ E' _ g1 g2 g3 _ g4
                    simpa [hrun, uponV] using this
                  · exact h.elim
                · exact h.elim
            · exact h.elim
          · exact h.elim
      · exact h.elim
    rename_i f
    have hf := hρ f
    cases hv : ρA f <;> rw [hv] at h hf <;> (try simp only at h) <;> try exact h.elim
    rename_i fn first cap
    cases fn <;> (try simp only at h) <;> try exact h.elim
    rename_i k
    obtain ⟨a, b, hfv, h1, h2⟩ := hf
    have hl := relL_evs hρ c.args.toList
    have hall : RelL E w (app (app first (evs ρA c.args.toList)) cap) ((a ++ c.args.toList.map ρ) ++ b) := (h1.app hl).app h2
    have hstep := hC.step h
    have hcalls := hC.calls h B E w _ hS hall
    have hrun : (do let d ← resolve ρ c o.type; invoke d.target d.args : Sem Next).run P w = .ok (.enter k ((a ++ c.args.toList.map ρ) ++ b).toArray) w := by
      have : (a.toArray ++ c.args.map ρ ++ b.toArray) = ((a ++ c.args.toList.map ρ) ++ b).toArray := by
        apply Array.ext'; simp
      simp only [resolve, hcal, hfv, Deferred.ofValue, Sem.run_bind, Sem.run_pure, Result.andThen_ok, invoke, this, hstep]
    rw [hrun]
    simp only [uponV]
    refine hcalls.mono fun e w' he => ?_
    obtain ⟨out, m', k1, k2, E', hK, hS', hE, hO⟩ := he
    have := hn _ _ _ _ E' _ hK hS' hE
    cases out with
    | ret av =>
      obtain ⟨v, rfl, hr⟩ := hO
      exact .inl ⟨v, rfl, this v hr⟩
    | panic av =>
      obtain ⟨v, rfl, hr⟩ := hO
      exact .inr ⟨_, rfl, this v hr⟩

/-- **All operations.** -/
theorem xop_sound {o : Oper} {ρA : Opd} {ρ : Operand → Value} (hρ : ∀ x, Rel E w (ρA x) (ρ x)) {K : AK} (h : xop tab call o ρA m K)
    {next : Value → World → Prop} {pan : List PanicEntry → World → Prop}
    (hn : ∀ out m' k1 k2 E' w', K out m' k1 k2 → SatM B E' m' w' → EKeep E w E' w' k1 k2 →
      (match out with | .ret av => ∀ v, Rel E' w' av v → next v w' | .panic av => ∀ v, Rel E' w' av v → pan [{ v := v, recovered := false }] w')) :
    uponV P next pan ((execOp ρ o).run P w) := by
  unfold xop at h
  split at h
  · obtain ⟨v, av, h1, h2, h3⟩ := qop_sound hT hS hρ h
    rw [h1]
    exact hn _ _ _ _ E w h3 hS (EKeep.refl E w) v h2
  · exact lop_sound hT hC hS hρ h hn
end lop

end Go.Proofs.Ytkdemkkepepbdaa.Sx
