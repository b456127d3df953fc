/- The framework: pure calls in other memories, and loops. -/
import Derived.Test.YtbgifokhlbaapaaSx9
namespace Go.Proofs.Ytbgifokhlbaapaa.Sx
set_option linter.unusedSectionVars false
set_option linter.unusedVariables false
set_option linter.unusedSimpArgs false
open Go.RowKit

mutual
/-- A value as one sees it who has no blocks of one's own. -/
def iso : AV → AV
  | .int k n => .int k n
  | .bool b => .bool b
  | .str s => .str s
  | .nilp => .nilp
  | .nsl b => .nsl b
  | .view _ t xs => .view [] t xs
  | .agg l => .agg (isoL l)
  | .tup l => .tup (isoL l)
  | .nilfn => .nilfn
  | .nilif => .nilif
  | _ => .bad
def isoL : List AV → List AV
  | [] => []
  | a :: l => iso a :: isoL l
end
mutual
def srcsV : AV → List Nat
  | .view src _ _ => src
  | .agg l => srcsL l
  | .tup l => srcsL l
  | _ => []
def srcsL : List AV → List Nat
  | [] => []
  | a :: l => uni (srcsV a) (srcsL l)
end
mutual
/-- And back. -/
def back (src : List Nat) : AV → AV
  | .int k n => .int k n
  | .bool b => .bool b
  | .str s => .str s
  | .nilp => .nilp
  | .nsl b => .nsl b
  | .view _ t xs => .view src t xs
  | .agg l => .agg (backL src l)
  | .tup l => .tup (backL src l)
  | .nilfn => .nilfn
  | .nilif => .nilif
  | _ => .bad
def backL (src : List Nat) : List AV → List AV
  | [] => []
  | a :: l => back src a :: backL src l
end
def backO (src : List Nat) : AOut → AOut
  | .ret v => .ret (back src v)
  | .panic v => .panic (back src v)

/-- No blocks of one's own; what the sources allow may be read. -/
def Env.iso (E : Env) (src : List Nat) : Env := ⟨fun _ => none, fun _ => undef, E.ok src⟩

mutual
theorem Rel.iso {E : Env} {w : World} {src : List Nat} : ∀ {a : AV} {v : Value}, (∀ i ∈ srcsV a, i ∈ src) → Rel E w a v → Rel (E.iso src) w (iso a) v
  | .int _ _, v, _, h => by simpa [Sx.iso, Rel] using h
  | .bool _, v, _, h => by simpa [Sx.iso, Rel] using h
  | .str _, v, _, h => by simpa [Sx.iso, Rel] using h
  | .nilp, v, _, h => by simpa [Sx.iso, Rel] using h
  | .nsl _, v, _, h => by simpa [Sx.iso, Rel] using h
  | .nilfn, v, _, h => by simpa [Sx.iso, Rel] using h
  | .nilif, v, _, h => by simpa [Sx.iso, Rel] using h
  | .view s t xs, v, hs, h => by
    simp only [Sx.iso, Rel] at h ⊢
    simp only [srcsV] at hs
    exact DRep.keep (t := .list t) (fun b hb _ => ⟨⟨⟨hb.1, fun i hi => hs i (hb.2 i hi)⟩, fun i hi => by simp [Env.iso] at hi⟩, fun _ _ h => h⟩) h
  | .agg l, v, hs, h => by
    simp only [Sx.iso, Rel] at h ⊢
    obtain ⟨vs, rfl, h⟩ := h
    exact ⟨vs, rfl, RelL.iso (by simpa [srcsV] using hs) h⟩
  | .tup l, v, hs, h => by
    simp only [Sx.iso, Rel] at h ⊢
    obtain ⟨vs, rfl, h⟩ := h
    exact ⟨vs, rfl, RelL.iso (by simpa [srcsV] using hs) h⟩
  | .bad, v, _, h => by simp [Sx.iso, Rel]
  | .und, v, _, h => by simp [Sx.iso, Rel]
  | .vptr _ _, v, _, h => by simp [Sx.iso, Rel]
  | .ptr _ _, v, _, h => by simp [Sx.iso, Rel]
  | .vsl _ _ _ _, v, _, h => by simp [Sx.iso, Rel]
  | .own _, v, _, h => by simp [Sx.iso, Rel]
  | .rptr _ _ _ _, v, _, h => by simp [Sx.iso, Rel]
  | .fn _ _ _, v, _, h => by simp [Sx.iso, Rel]
  | .iface _ _, v, _, h => by simp [Sx.iso, Rel]
theorem RelL.iso {E : Env} {w : World} {src : List Nat} : ∀ {l : List AV} {vs : List Value}, (∀ i ∈ srcsL l, i ∈ src) → RelL E w l vs → RelL (E.iso src) w (isoL l) vs
  | [], vs, _, h => by simpa [isoL, RelL] using h
  | a :: l, vs, hs, h => by
    simp only [isoL, RelL] at h ⊢
    obtain ⟨v, us, rfl, h1, h⟩ := h
    simp only [srcsL] at hs
    exact ⟨v, us, rfl, Rel.iso (fun i hi => hs i (mem_uni (List.mem_append.2 (.inl hi)))) h1, RelL.iso (fun i hi => hs i (mem_uni (List.mem_append.2 (.inr hi)))) h⟩
end

mutual
theorem Rel.back {E E' : Env} {w : World} {src : List Nat} (hT : ∀ b, E'.T b → (∃ o v, w.cell? ⟨b, o, none⟩ = some v) → E.ok src b) : ∀ {a : AV} {v : Value}, Rel E' w a v → Rel E w (back src a) v
  | .int _ _, v, h => by simpa [Sx.back, Rel] using h
  | .bool _, v, h => by simpa [Sx.back, Rel] using h
  | .str _, v, h => by simpa [Sx.back, Rel] using h
  | .nilp, v, h => by simpa [Sx.back, Rel] using h
  | .nsl _, v, h => by simpa [Sx.back, Rel] using h
  | .nilfn, v, h => by simpa [Sx.back, Rel] using h
  | .nilif, v, h => by simpa [Sx.back, Rel] using h
  | .view s t xs, v, h => by
    simp only [Sx.back, Rel] at h ⊢
    exact DRep.keep (t := .list t) (fun b hb hex => ⟨hT b hb.1 hex, fun _ _ h => h⟩) h
  | .agg l, v, h => by
    simp only [Sx.back, Rel] at h ⊢
    obtain ⟨vs, rfl, h⟩ := h
    exact ⟨vs, rfl, RelL.back hT h⟩
  | .tup l, v, h => by
    simp only [Sx.back, Rel] at h ⊢
    obtain ⟨vs, rfl, h⟩ := h
    exact ⟨vs, rfl, RelL.back hT h⟩
  | .bad, v, h => by simp [Sx.back, Rel]
  | .und, v, h => by simp [Sx.back, Rel]
  | .vptr _ _, v, h => by simp [Sx.back, Rel]
  | .ptr _ _, v, h => by simp [Sx.back, Rel]
  | .vsl _ _ _ _, v, h => by simp [Sx.back, Rel]
  | .own _, v, h => by simp [Sx.back, Rel]
  | .rptr _ _ _ _, v, h => by simp [Sx.back, Rel]
  | .fn _ _ _, v, h => by simp [Sx.back, Rel]
  | .iface _ _, v, h => by simp [Sx.back, Rel]
theorem RelL.back {E E' : Env} {w : World} {src : List Nat} (hT : ∀ b, E'.T b → (∃ o v, w.cell? ⟨b, o, none⟩ = some v) → E.ok src b) : ∀ {l : List AV} {vs : List Value}, RelL E' w l vs → RelL E w (backL src l) vs
  | [], vs, h => by simpa [backL, RelL] using h
  | a :: l, vs, h => by
    simp only [backL, RelL] at h ⊢
    obtain ⟨v, us, rfl, h1, h⟩ := h
    exact ⟨v, us, rfl, Rel.back hT h1, RelL.back hT h⟩
end

theorem killB_nil (bk : Blk) : killB [] [] bk = bk := by
  cases bk with
  | dead => rfl
  | var cells => simp [killB, killL_nil]
  | row e t xs src => simp [killB, hits_nil]

/-- A call that needs no block of one's own, in whatever memory. -/
theorem iso_calls {P : Program} {call : ACall} (hC : CallOK P call) {f : FuncId} {args : List AV} {m : List Blk} {K : AK} {R : AOut → Prop}
    (h : call f (isoL args) [] fun out _ _ _ => R out) (hR : ∀ out, R out → K (backO (srcsL args) out) m [] []) :
    ∀ B E w vs, SatM B E m w → RelL E w args vs → Calls P f vs.toArray w fun e w' => ∃ out m' k1 k2 E', K out m' k1 k2 ∧ SatM B E' m' w' ∧ EKeep E w E' w' k1 k2 ∧ OutR E' w' out e := by
  intro B E w vs hM hA
  have hM1 : SatM ⟨w, fun _ => False, E.ok (srcsL args)⟩ (E.iso (srcsL args)) [] w := by
    refine ⟨fun i bk h => by simp at h, fun _ _ => rfl, fun i j b h => by simp [Env.iso] at h, fun i b h => by simp [Env.iso] at h, rfl, rfl, rfl, Nat.le_refl _, fun _ _ _ => rfl, fun b => ?_⟩
    simp only [Env.iso]
    refine ⟨.inl, fun h => h.elim id fun h => ⟨(hM.T b).2 (.inr (Nat.le_trans hM.size h)), fun i hi => ?_⟩⟩
    have h1 : w.heap.size ≤ b := h
    have := (hM.old i b hi).2
    omega
  refine (hC.calls h _ _ w vs hM1 (RelL.iso (fun _ h => h) hA)).mono fun e w' he => ?_
  obtain ⟨out, m', k1, k2, E', hr, hS, _, ho⟩ := he
  have hsame : ∀ b, b < w.heap.size → w'.heap[b]? = w.heap[b]? := fun b hb => hS.frame b hb (fun x => x)
  have hk : EKeep E w E w' [] [] := by
    refine ⟨fun _ _ _ h => h, fun _ _ => rfl, fun src _ b hok hex => ⟨hok, fun o v hv => ?_⟩⟩
    have hlt := World.block_lt_of_cell? w _ hv
    rw [← hv]
    exact World.cell?_of_block (w := w) (w' := w') (a := ⟨b, o, none⟩) (hsame b hlt)
  refine ⟨_, m, [], [], E, hR out hr, ?_, hk, ?_⟩
  · refine ⟨fun i bk hb => ?_, hM.out, hM.inj, fun i b hb => ⟨(hM.old i b hb).1, Nat.lt_of_lt_of_le (hM.old i b hb).2 hS.size⟩, hS.os.trans hM.os, hS.tape.trans hM.tape, hS.output.trans hM.output, Nat.le_trans hM.size hS.size,
      fun b hb hF => (hsame b (Nat.lt_of_lt_of_le hb hM.size)).trans (hM.frame b hb hF), hM.T⟩
    have := (hM.blk i bk hb).keep hk (fun b hb => hsame b (hM.old i b hb).2) rfl rfl
    rwa [killB_nil] at this
  · have hT : ∀ b, E'.T b → (∃ o v, w'.cell? ⟨b, o, none⟩ = some v) → E.ok (srcsL args) b := by
      intro b hb hex
      rcases (hS.T b).1 hb with h | h
      · exact h
      · refine ⟨(hM.T b).2 (.inr (Nat.le_trans hM.size h)), fun i hi => ?_⟩
        have h1 : w.heap.size ≤ b := h
        have := (hM.old i b hi).2
        omega
    cases out with
    | ret av => obtain ⟨v, rfl, hv⟩ := ho; exact ⟨v, rfl, Rel.back hT hv⟩
    | panic av => obtain ⟨v, rfl, hv⟩ := ho; exact ⟨v, rfl, Rel.back hT hv⟩

/-- What is said of a function that needs no block of one's own: by what it returns. -/
theorem specOK_pure {P : Program} {call : ACall} (hC : CallOK P call) {f : FuncId} {S : List AV → List Blk → AK → Prop} (step : ∀ vs w, (callFunc f vs).run P w = .ok (.enter f vs) w)
    (h : ∀ args m K, S args m K → ∃ v, call f (isoL args) [] (fun out _ _ _ => out = .ret v) ∧ K (.ret (back (srcsL args) v)) m [] []) : SpecOK P f S := by
  refine ⟨step, fun {args m K} hS => ?_⟩
  obtain ⟨v, h1, h2⟩ := h args m K hS
  exact iso_calls hC h1 (fun out ho => by rw [ho]; exact h2)

/-! ### loops -/

theorem leT_sound {x y : AV} {K : Prop} (h : leT x y K) : (∀ E w v, Rel E w x v → Rel E w y v) ∧ K := by
  by_cases hy : y = .bad
  · subst hy
    exact ⟨fun E w v _ => by simp [Rel], h⟩
  · have h' : sameK x y K := by
      cases y <;> first | exact h | exact absurd rfl hy
    have := sameK_eq h'
    rw [this.1]
    exact ⟨fun _ _ _ h => h, this.2⟩
theorem leTs_sound : ∀ {l l' : List AV} {K : Prop}, leTs l l' K → (∀ E w vs, RelL E w l vs → RelL E w l' vs) ∧ K
  | [], [], K, h => ⟨fun _ _ _ h => h, h⟩
  | a :: l, b :: l', K, h => by
    simp only [leTs] at h
    have h1 := leT_sound h
    have h2 := leTs_sound h1.2
    refine ⟨fun E w vs hv => ?_, h2.2⟩
    obtain ⟨v, us, rfl, h3, h4⟩ := hv
    exact ⟨v, us, rfl, h1.1 E w v h3, h2.1 E w us h4⟩
  | [], _ :: _, _, h => h.elim
  | _ :: _, [], _, h => h.elim
theorem leBk_sound {x y : Blk} {K : Prop} (h : leBk x y K) : (∀ E w i, SatB E w i x → SatB E w i y) ∧ K := by
  unfold leBk at h
  split at h
  · have := leTs_sound h
    refine ⟨fun E w i hs => ?_, this.2⟩
    obtain ⟨b, vs, T, h1, h2, h3⟩ := hs
    exact ⟨b, vs, T, h1, h2, this.1 E w vs h3⟩
  · exact ⟨fun _ _ _ _ => trivial, h⟩
  · rw [h.1]; exact ⟨fun _ _ _ h => h, h.2⟩
theorem leM_sound : ∀ {m m' : List Blk} {K : Prop}, leM m m' K → (m.length = m'.length ∧ ∀ (i : Nat) (y : Blk), m'[i]? = some y → ∃ x : Blk, m[i]? = some x ∧ ∀ E w j, SatB E w j x → SatB E w j y) ∧ K
  | [], [], K, h => ⟨⟨rfl, fun i y hi => by simp at hi⟩, h⟩
  | a :: l, b :: l', K, h => by
    simp only [leM] at h
    have h1 := leBk_sound h
    have h2 := leM_sound h1.2
    refine ⟨⟨by simp [h2.1.1], fun i y hi => ?_⟩, h2.2⟩
    cases i with
    | zero => simp only [List.getElem?_cons_zero, Option.some.injEq] at hi; subst hi; exact ⟨a, rfl, h1.1⟩
    | succ i => simpa using h2.1.2 i y (by simpa using hi)
  | [], _ :: _, _, h => h.elim
  | _ :: _, [], _, h => h.elim
theorem subN_spec : ∀ {k l : List Nat}, subN k l = true → ∀ i ∈ k, i ∈ l
  | [], _, _, i, hi => by cases hi
  | a :: k, l, h, i, hi => by
    simp only [subN] at h
    split at h
    · rename_i hm
      cases hi with
      | head => exact memb_true hm
      | tail _ hi => exact subN_spec h i hi
    · cases h
theorem leS_sound {σ σ' : St} {K : Prop} (h : leS σ σ' K) : (∀ {C E w a}, SatS C E w σ a → SatS C E w σ' a) ∧ K := by
  unfold leS at h
  split at h
  · rename_i h1 h2
    have h3 := leTs_sound h
    have h4 := leM_sound h3.2
    refine ⟨fun {C E w a} hS => ⟨?_, h3.1 _ _ _ hS.tm, hS.dfr, hS.keep.sub (subN_spec h1) (subN_spec h2)⟩, h4.2⟩
    have hM := hS.mem
    refine ⟨fun i bk hb => ?_, fun i hi => hM.out i (by rw [h4.1.1]; exact hi), hM.inj, hM.old, hM.os, hM.tape, hM.output, hM.size, hM.frame, hM.T⟩
    obtain ⟨x, hx, hxy⟩ := h4.1.2 i bk hb
    exact hxy _ _ _ (hM.blk i x hx)
  · exact h.elim

/-- A loop, by what stays so. -/
theorem loop_rule {P : Program} {tab : Tab} {call : ACall} (hT : TabOK P tab) (hC : CallOK P call) (hD : ∀ C, DrawOK P tab call C) {L : Loops} {fuel : Nat} {c : Code} (hL : LoopsOK P L c)
    {X : Type} (shape : X → St) (sx : AExit → X → St) (Inv : X → Prop) (meas : X → Nat) {Q : AExit → St → Prop} {QX : AExit → X → Prop} (hQ : ∀ e y, QX e y → Q e (sx e y))
    (hb : ∀ x, Inv x → awp tab call L fuel c (bodyK shape sx Inv meas (meas x) QX) (shape x)) {x : X} (hx : Inv x) {C : Ctx} {E : Env} {w : World} {a : Act} (hS : SatS C E w (shape x) a) :
    (Code.loop c).wp P (PQ C Q) a w := by
  have key : ∀ n x, Inv x → meas x < n → ∀ E w a, SatS C E w (shape x) a → Code.rounds P c (PQ C Q) n a w := by
    intro n
    induction n with
    | zero => intro x _ h; omega
    | succ n ih =>
      intro x hx hn E w a hS
      rw [rounds_succ]
      refine wp_mono (awp_sound hT hC (hD C) hL (hb x hx) hS) fun e a' w' hq => ?_
      obtain ⟨ae, σ', E', hQ', hS', hE⟩ := hq
      cases ae with
      | normal =>
        cases hE
        obtain ⟨y, hle⟩ := hQ'
        have := leS_sound hle
        exact ih y this.2.1 (by omega) E' w' a' (this.1 hS')
      | exit id =>
        cases hE
        obtain ⟨y, hle⟩ := hQ'
        have := leS_sound hle
        exact ⟨_, _, E', hQ _ _ this.2, this.1 hS', rfl⟩
      | ret =>
        cases hE
        obtain ⟨y, hle⟩ := hQ'
        have := leS_sound hle
        exact ⟨_, _, E', hQ _ _ this.2, this.1 hS', rfl⟩
      | panic av =>
        obtain ⟨v, rfl, hv⟩ := hE
        obtain ⟨y, hle⟩ := hQ'
        have := leS_sound hle
        exact ⟨_, _, E', hQ _ _ this.2, this.1 hS', v, rfl, hv⟩
  exact wp_loop_rounds (meas x + 1) (key _ x hx (by omega) E w a hS)

/-- What is said of a loop: there is a state of its shape, and what is behind it holds of all that it may leave. -/
theorem summOK_of {P : Program} {tab : Tab} {call : ACall} (hT : TabOK P tab) (hC : CallOK P call) (hD : ∀ C, DrawOK P tab call C) {L : Loops} {fuel : Nat} {c : Code} (hL : LoopsOK P L c)
    {X : Type} (shape : X → St) (sx : AExit → X → St) (meas : X → Nat) {S : Summ}
    (h : ∀ Q σ, S σ Q → ∃ (x : X) (Inv : X → Prop) (QX : AExit → X → Prop), (∀ {C E w a}, SatS C E w σ a → SatS C E w (shape x) a) ∧ Inv x ∧ (∀ e y, QX e y → Q e (sx e y)) ∧
      ∀ y, Inv y → awp tab call L fuel c (bodyK shape sx Inv meas (meas y) QX) (shape y)) : SummOK P c S := by
  intro Q σ hs C E w a hS
  obtain ⟨x, Inv, QX, hle, hi, hQ, hb⟩ := h Q σ hs
  exact loop_rule hT hC hD hL shape sx Inv meas hQ hb hi (hle hS)

theorem firsts_mem {k : Nat} : ∀ {l : List Code} {d : Code}, d ∈ l → firstRegion d = some k → k ∈ firsts l
  | c :: l, d, hd, hk => by
    simp only [firsts]
    cases hd with
    | head => rw [hk]; simp
    | tail _ hd =>
      have := firsts_mem (l := l) hd hk
      split
      · exact List.mem_cons_of_mem _ this
      · exact this
theorem findLoop_mem {k : Nat} : ∀ {l : List Code} {d : Code}, nodupN (firsts l) = true → d ∈ l → firstRegion d = some k → findLoop l k = d
  | c :: l, d, hn, hd, hk => by
    simp only [firsts] at hn
    simp only [findLoop]
    cases hd with
    | head => rw [hk]; simp
    | tail _ hd =>
      have hm := firsts_mem hd hk
      cases hc : firstRegion c with
      | none => rw [hc] at hn; exact findLoop_mem hn hd hk
      | some j =>
        rw [hc] at hn
        simp only [nodupN] at hn
        split at hn
        · cases hn
        · rename_i hj
          have : j ≠ k := fun e => memb_false hj (by rw [e]; exact hm)
          have hb : Nat.beq j k = false := by
            cases hb : Nat.beq j k with
            | true => exact absurd (beq_true hb) this
            | false => rfl
          simp only [hb]
          exact findLoop_mem hn hd hk
theorem llook_mem : ∀ {L : Loops} {k : Nat} {S : Summ}, llook L k = some S → (k, S) ∈ L
  | [], k, S, h => by simp [llook] at h
  | (j, T) :: L, k, S, h => by
    simp only [llook] at h
    split at h
    · rename_i hb; rw [beq_true hb] at *; cases h; simp
    · exact List.mem_cons_of_mem _ (llook_mem h)
/-- A function whose loops are told. -/
theorem fnOK_loops {P : Program} {f : FuncId} {fn : Func} {L : Loops} (func : P.funcs[f]? = some fn) (step : ∀ vs w, (callFunc f vs).run P w = .ok (.enter f vs) w)
    (hn : nodupN (firsts (loopsOf (bodyOf fn))) = true) (h : ∀ k S, (k, S) ∈ L → SummOK P (loopAt fn k) S) : FnOK P f fn L := by
  refine ⟨func, step, fun c hc d hd k S hk hl => ?_⟩
  have hb : bodyOf fn = c := by simp [bodyOf, hc]
  have := findLoop_mem (k := k) hn (by rw [hb]; exact hd) hk
  have hx := h k S (llook_mem hl)
  unfold loopAt at hx
  rwa [this] at hx

/-! ### numbers -/

theorem wrap64 {a : Int} (h1 : -9223372036854775808 ≤ a) (h2 : a ≤ 9223372036854775807) : IntKind.wrap .i64 a = a := by
  have h64 : (2 : Int) ^ IntKind.bits .i64 = 18446744073709551616 := by decide
  have h63 : (2 : Int) ^ (IntKind.bits .i64 - 1) = 9223372036854775808 := by decide
  simp only [IntKind.wrap, h64, h63, show IntKind.signed .i64 = true from rfl, Bool.true_and]
  split <;> rename_i h <;> simp at h <;> omega
theorem has64 {a : Int} : IntKind.has .i64 a ↔ -9223372036854775808 ≤ a ∧ a ≤ 9223372036854775807 := by
  have h1 : IntKind.min .i64 = -9223372036854775808 := by decide
  have h2 : IntKind.max .i64 = 9223372036854775807 := by decide
  simp [IntKind.has, h1, h2]
theorem addW64 {a b : Int} (h1 : -9223372036854775808 ≤ a + b) (h2 : a + b ≤ 9223372036854775807) : addW .i64 a b = a + b := wrap64 h1 h2
theorem subW64 {a b : Int} (h1 : -9223372036854775808 ≤ a - b) (h2 : a - b ≤ 9223372036854775807) : subW .i64 a b = a - b := wrap64 h1 h2
theorem mulW64 {a b : Int} (h1 : -9223372036854775808 ≤ a * b) (h2 : a * b ≤ 9223372036854775807) : mulW .i64 a b = a * b := wrap64 h1 h2
theorem ifB_and {b : Bool} {X Y : Prop} : ifB b X Y ↔ (b = true → X) ∧ (b = false → Y) := by cases b <;> simp [ifB]
theorem ltB_t {a b : Int} : ltB a b = true ↔ a < b := by simp [ltB]
theorem ltB_f {a b : Int} : ltB a b = false ↔ b ≤ a := by simp [ltB]
theorem leB_t {a b : Int} : leB a b = true ↔ a ≤ b := by simp [leB]
theorem leB_f {a b : Int} : leB a b = false ↔ b < a := by simp [leB]
theorem eqB_t {a b : Int} : eqB a b = true ↔ a = b := by simp [eqB]
theorem eqB_f {a b : Int} : eqB a b = false ↔ a ≠ b := by simp [eqB]
theorem notB_t {a : Bool} : notB a = true ↔ a = false := by cases a <;> simp [notB]
theorem notB_f {a : Bool} : notB a = false ↔ a = true := by cases a <;> simp [notB]
theorem ret_bool {a b : Bool} : (AOut.ret (.bool a) = .ret (.bool b)) ↔ a = b := by simp
theorem view_eq {src : List Nat} {t : Ty} {a b : List (den t)} : (AV.view src t a = AV.view src t b) ↔ a = b := by simp

end Go.Proofs.Ytbgifokhlbaapaa.Sx
