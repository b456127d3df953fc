/- What is said of a call whose new blocks are left behind: what it made is seen as what is read. -/
import Derived.Test.YtkdemkkepepbdaaSx12
namespace Go.Proofs.Ytkdemkkepepbdaa.Sx
set_option linter.unusedSectionVars false
set_option linter.unusedVariables false
set_option linter.unusedSimpArgs false
open Go.RowKit

theorem frz1_rel {B : Base} {E : Env} {m : List Blk} {w : World} (hS : SatM B E m w) {n : Nat} {a : AV} {v : Value} (h : Rel E w a v) : Rel E w (frz1 n m a) v := by
  unfold frz1
  split
  · exact h
  · exact freeze_rel hS 8 h
theorem frzR_rel {B : Base} {E : Env} {m : List Blk} {w : World} (hS : SatM B E m w) {n : Nat} {a : AV} {v : Value} (h : Rel E w a v) : Rel E w (frzR n m a) v := by
  cases a with
  | tup l =>
    simp only [frzR, Rel] at h ⊢
    obtain ⟨vs, rfl, h⟩ := h
    exact ⟨vs, rfl, mapAV_rel (fun h => frz1_rel hS h) h⟩
  | _ => exact frz1_rel (n := n) hS h

theorem subK_mem : ∀ {k l : List Nat}, subK k l = true → ∀ i ∈ k, i ∈ l
  | [], l, h, i, hi => by cases hi
  | a :: k, l, h, i, hi => by
    simp only [subK] at h
    cases hb : memb a l with
    | true =>
      rw [hb] at h
      cases hi with
      | head => exact memb_true hb
      | tail _ hi => exact subK_mem h i hi
    | false => rw [hb] at h; cases h
theorem EKeep.wide {E : Env} {w : World} {E' : Env} {w' : World} {k1 k2 K1 K2 : List Nat} (h : EKeep E w E' w' k1 k2) (h1 : ∀ i ∈ k1, i ∈ K1) (h2 : ∀ i ∈ k2, i ∈ K2) : EKeep E w E' w' K1 K2 :=
  ⟨fun i hi => h.1 i fun hc => hi (h1 i hc), fun i hi => h.2.1 i fun hc => hi (h1 i hc), fun src hs => h.2.2 src fun i hi hc => hs i hi (h2 i hc)⟩
theorem frz_sound {B : Base} {E E' : Env} {m m' : List Blk} {w w' : World} {rs : Sh} {K1 K2 : List Nat} {out : AOut} {e : Ending} {k1 k2 : List Nat} {Q : AK} (hM0 : SatM B E m w) (hQ : frzK (mlen m) rs K1 K2 Q out m' k1 k2)
    (hM : SatM B E' m' w') (hk : EKeep E w E' w' k1 k2) (ho : OutR E' w' out e) :
    ∃ out m'' k1 k2 E'', Q out m'' k1 k2 ∧ SatM B E'' m'' w' ∧ EKeep E w E'' w' k1 k2 ∧ OutR E'' w' out e := by
  unfold frzK at hQ
  rw [mlen_eq] at hQ
  split at hQ
  · rename_i hrr
    have hrr := andb_split hrr
    have hr := hrr.1
    have hkk := andb_split hrr.2
    have hlt : ∀ i b, E.bl i = some b → i < m.length := fun i b hb => by
      by_cases hi : i < m.length
      · exact hi
      · rw [hM0.out i (by omega)] at hb; cases hb
    cases out with
    | panic av => exact hQ.elim
    | ret av =>
      obtain ⟨v, rfl, hv⟩ := ho
      refine ⟨_, _, _, _, E'.trim E m.length, hQ, ?_, ?_, ⟨v, rfl, Rel.cut (nrm_rel (frzR_rel hM hv))⟩⟩
      · refine ⟨fun i bk hb => ?_, fun i hi => ?_, fun i j b h1 h2 => ?_, fun i b h => ?_, hM.os, hM.tape, hM.output, hM.size, hM.frame, hM.T, hM.FT⟩
        · have hb0 := hb
          rw [mtake_eq, List.getElem?_take] at hb
          split at hb
          · rename_i hi
            have := hM.blk i bk hb
            cases bk with
            | dead => trivial
            | var l =>
              obtain ⟨b, vs, T, h1, h2, h3⟩ := this
              exact ⟨b, vs, T, Env.trim_bl hi h1, h2, h3.trim (refsM_get hr hb0)⟩
            | row e t xs src =>
              obtain ⟨hl, cells, hown, h1, h2⟩ := this
              exact ⟨hl, cells, by simpa [Env.trim, hi] using hown, by simp [Env.trim, hi, h1], h2.keep fun b hb _ => ⟨Env.trim_ok hb, fun _ _ h => h⟩⟩
          · cases hb
        · simp only [Env.trim]
          split
          · rename_i hi'
            rw [mtake_eq, List.length_take] at hi
            exact hM.out i (by omega)
          · rfl
        · have g : ∀ i b, (E'.trim E m.length).bl i = some b → E'.bl i = some b := fun i b h => by
            simp only [Env.trim] at h; split at h
            · exact h
            · cases h
          exact hM.inj i j b (g i b h1) (g j b h2)
        · simp only [Env.trim] at h
          split at h
          · exact hM.old i b h
          · cases h
      · refine EKeep.wide (k1 := filtN m.length k1) (k2 := filtN m.length k2) ?_ (subK_mem hkk.1) (subK_mem hkk.2)
        refine ⟨fun i hi b hb => Env.trim_bl (hlt i b hb) (hk.1 i (fun hc => hi (mem_filtN hc (hlt i b hb))) b hb), fun i hi => ?_, fun src hs b hok hex => ?_⟩
        · simp only [Env.trim]
          split
          · rename_i hlt'
            exact hk.2.1 i fun hc => hi (mem_filtN hc hlt')
          · rfl
        · have := hk.2.2 (src.filter (· < m.length)) (fun i hi hc => by
            have := List.mem_filter.1 hi
            exact hs i this.1 (mem_filtN hc (by simpa using this.2))) b ⟨hok.1, fun i hi => List.mem_filter.2 ⟨hok.2 i hi, by simpa using hlt i b hi⟩⟩ hex
          refine ⟨Env.trim_ok ⟨this.1.1, fun i hi => (List.mem_filter.1 (this.1.2 i hi)).1⟩, this.2⟩
  · exact hQ.elim

/-- What is said of a call is so, where its text walked says it: what it made is left behind. -/
theorem specOKF_of {P : Program} {call : ACall} (hC : CallOK P call) {f : FuncId} {S : List AV → List Blk → AK → Prop} (rs : Sh) (K1 K2 : List Nat) (step : ∀ vs w, (callFunc f vs).run P w = .ok (.enter f vs) w)
    (h : ∀ args m K, S args m K → wfAL args → wfM m → Hd (call f args m (frzK (mlen m) rs K1 K2 K))) : SpecOK P f S := ⟨step, fun hS B E w vs hM hA =>
  (hC.calls (h _ _ _ hS hA.wf hM.wf).h B E w vs hM hA).mono fun e w' he => by
    obtain ⟨out, m', k1, k2, E', hr, hS', hk, ho⟩ := he
    exact frz_sound hM hr hS' hk ho⟩

/-- Recursion of what is said of calls. -/
theorem recS_ok {P : Program} {f : FuncId} {S : Nat → List AV → List Blk → AK → Prop} {G : List AV → List Blk → AK → Prop} (hF : ∀ N, SpecOK P f (S N))
    (hG : ∀ args m K, G args m K → ∃ N, S N args m K) : SpecOK P f G := ⟨(hF 0).step, fun {args m K} hS => by
  obtain ⟨N, h⟩ := hG _ _ _ hS
  exact (hF N).calls h⟩
/-- What a walk's print is opened with, in one. -/
theorem simpsL : type_of% @need_def ∧ type_of% @appL_def ∧ type_of% @ifB_def ∧ type_of% @impB_def ∧ type_of% @selB_f ∧ type_of% @selB_t ∧ type_of% @selI_def ∧ type_of% @selX_def ∧ type_of% @notB_def ∧ type_of% @andB_def ∧ type_of% @orB_def ∧ type_of% @beqB_def ∧ type_of% @ltB_def ∧ type_of% @leB_def ∧ type_of% @eqB_def ∧ type_of% @seqB_def ∧ type_of% @eqI_def ∧ type_of% @eqL_def ∧ type_of% @eqS_def ∧ type_of% @eqD_def ∧ type_of% @eqT_def ∧ type_of% @imp_def ∧ type_of% @inI_def ∧ type_of% @nzI_def ∧ type_of% @geZ_def ∧ type_of% @ret_bool ∧ type_of% @ret_int ∧ type_of% @Bool.and_eq_true ∧ type_of% @Bool.or_eq_true ∧ type_of% @Bool.not_eq_true' ∧ type_of% @Bool.not_eq_false' ∧ type_of% @decide_eq_true_eq ∧ type_of% @decide_eq_false_iff_not ∧ type_of% @Bool.and_eq_false_iff ∧ type_of% @Bool.or_eq_false_iff ∧ type_of% @Int.not_lt ∧ type_of% @Int.not_le ∧ type_of% @true_and ∧ type_of% @and_true ∧ type_of% @Bool.false_eq_true ∧ type_of% @Bool.true_eq_false ∧ type_of% @false_implies ∧ type_of% @true_implies ∧ type_of% @false_and ∧ type_of% @and_false ∧ type_of% @false_or ∧ type_of% @or_false ∧ type_of% @true_or ∧ type_of% @or_true :=
  ⟨@need_def, @appL_def, @ifB_def, @impB_def, @selB_f, @selB_t, @selI_def, @selX_def, @notB_def, @andB_def, @orB_def, @beqB_def, @ltB_def, @leB_def, @eqB_def, @seqB_def, @eqI_def, @eqL_def, @eqS_def, @eqD_def, @eqT_def, @imp_def, @inI_def, @nzI_def, @geZ_def, @ret_bool, @ret_int, @Bool.and_eq_true, @Bool.or_eq_true, @Bool.not_eq_true', @Bool.not_eq_false', @decide_eq_true_eq, @decide_eq_false_iff_not, @Bool.and_eq_false_iff, @Bool.or_eq_false_iff, @Int.not_lt, @Int.not_le, @true_and, @and_true, @Bool.false_eq_true, @Bool.true_eq_false, @false_implies, @true_implies, @false_and, @and_false, @false_or, @or_false, @true_or, @or_true⟩
/-- A loop told by walking all its rounds. -/
theorem summW_ok {P : Program} {tab : Tab} {fs : FS} {call : ACall} (hT : TabOK P tab) (hFS : FSOK P fs) (hC : CallOK P call) (hD : ∀ C, DrawOK P tab fs call C) {L : Loops} {fuel : Nat} {c : Code} (hL : LoopsOK P L (.loop c))
    {X : Type} {shape : X → St} {sx : AExit → X → St} {nx : St → X} {Pre : X → Prop} {D : X → LEnds X}
    (hb : ∀ x, Pre x → wfS (shape x) → Hd (awp tab fs call L fuel (.loop c) (bodyN shape sx nx (fun _ => False) (fun _ => 0) 0 (D x)) (shape x))) : SummOK P c (summN shape sx nx Pre D) := by
  intro Q σ hs C E w a hS
  have hs := leS_sound hs
  obtain ⟨E', hS'⟩ := hs.1 hS
  have hQ := exitsQ_spec hs.2.2.1
  have hR := hs.2.2.2
  refine wp_mono (awp_sound hT hFS hC (hD C) hL (hb _ hs.2.1 hS'.wf).h hS') fun e a' w' hq => ?_
  obtain ⟨ae, σ', E1, hQ', hS1, hE⟩ := hq
  cases ae with
  | normal => exact (leS_sound hQ').2.1.elim
  | exit id =>
    cases hE
    have := leS_sound hQ'
    obtain ⟨E'', hS''⟩ := this.1 hS1
    exact ⟨_, _, E'', hQ _ _ this.2, hS'', rfl⟩
  | ret =>
    cases hE
    have := leS_sound hQ'
    obtain ⟨E'', hS''⟩ := this.1 hS1
    exact ⟨_, _, E'', hR _ this.2, hS'', rfl⟩
  | panic av => exact (show False from hQ').elim
/-! Shorter words for a print: what is alike for certain. -/
@[reducible] def eqIr (a : Int) (K : Prop) : Prop := eqI a a K
@[reducible] def eqLr (a : Bool) (K : Prop) : Prop := eqL a a K
@[reducible] def eqSr (a : List UInt8) (K : Prop) : Prop := eqS a a K
@[reducible] def eqDr {α : Type} (a : List α) (K : Prop) : Prop := eqD a a K
@[reducible] def needr {α : Type} (a : α) (K : Prop) : Prop := need (a = a) K
end Go.Proofs.Ytkdemkkepepbdaa.Sx
