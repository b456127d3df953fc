/- The framework: pure calls in other memories, and loops. -/
import Derived.Test.YtkdemkkepepbdaaSx9
namespace Go.Proofs.Ytkdemkkepepbdaa.Sx
set_option linter.unusedSectionVars false
set_option linter.unusedVariables false
set_option linter.unusedSimpArgs false
open Go.RowKit

/-- No blocks of one's own; what the sources allow may be read. -/
def Env.iso (E : Env) (src : List Nat) : Env := ⟨fun _ => none, fun _ => undef, E.ok src⟩

mutual
theorem Rel.iso {E : Env} {w : World} {src : List Nat} : ∀ {a : AV} {v : Value}, (∀ i ∈ srcsV a, i ∈ src) → Rel E w a v → Rel (E.iso src) w (iso a) v
  | .int _ _, v, _, h => by simpa [Sx.iso, Rel] using h
  | .bool _, v, _, h => by simpa [Sx.iso, Rel] using h
  | .str _, v, _, h => by simpa [Sx.iso, Rel] using h
  | .nilp, v, _, h => by simpa [Sx.iso, Rel] using h
  | .nsl _, v, _, h => by simpa [Sx.iso, Rel] using h
  | .nilfn, v, _, h => by simpa [Sx.iso, Rel] using h
  | .nilif, v, _, h => by simpa [Sx.iso, Rel] using h
  | .view s t xs, v, hs, h => by
    simp only [Sx.iso, Rel] at h ⊢
    simp only [srcsV] at hs
    exact DRep.keep (t := .list t) (fun b hb _ => ⟨⟨⟨hb.1, fun i hi => hs i (hb.2 i hi)⟩, fun i hi => by simp [Env.iso] at hi⟩, fun _ _ h => h⟩) h
  | .agg l, v, hs, h => by
    simp only [Sx.iso, Rel] at h ⊢
    obtain ⟨vs, rfl, h⟩ := h
    exact ⟨vs, rfl, RelL.iso (by simpa [srcsV] using hs) h⟩
  | .tup l, v, hs, h => by
    simp only [Sx.iso, Rel] at h ⊢
    obtain ⟨vs, rfl, h⟩ := h
    exact ⟨vs, rfl, RelL.iso (by simpa [srcsV] using hs) h⟩
  | .bad, v, _, h => by simp [Sx.iso, Rel]
  | .und, v, _, h => by simp [Sx.iso, Rel]
  | .vptr s cells, v, hs, h => by
    simp only [Sx.iso, Rel] at h ⊢
    simp only [srcsV, uniN_eq] at hs
    obtain ⟨b, off, vs, rfl, hok, hc, hr, hne⟩ := h
    refine ⟨b, off, vs, rfl, ⟨⟨hok.1, fun i hi => hs i (mem_uniL (hok.2 i hi))⟩, fun i hi => by simp [Env.iso] at hi⟩, hc, RelL.iso (fun i hi => hs i (mem_uniR hi)) hr, ?_⟩
    cases cells with
    | nil => exact absurd rfl hne
    | cons a l => simp [isoL]
  | .ptr _ _, v, _, h => by simp [Sx.iso, Rel]
  | .vsl _ _ _ _, v, _, h => by simp [Sx.iso, Rel]
  | .own _, v, _, h => by simp [Sx.iso, Rel]
  | .sub _ _, v, _, h => by simp [Sx.iso, Rel]
  | .rptr _ _ _ _, v, _, h => by simp [Sx.iso, Rel]
  | .fn f a b, v, hs, h => by
    simp only [Sx.iso, Rel] at h ⊢
    simp only [srcsV, uniN_eq] at hs
    obtain ⟨x, y, rfl, h1, h2⟩ := h
    exact ⟨x, y, rfl, RelL.iso (fun i hi => hs i (mem_uniL hi)) h1, RelL.iso (fun i hi => hs i (mem_uniR hi)) h2⟩
  | .iface _ _, v, _, h => by simp [Sx.iso, Rel]
theorem RelL.iso {E : Env} {w : World} {src : List Nat} : ∀ {l : List AV} {vs : List Value}, (∀ i ∈ srcsL l, i ∈ src) → RelL E w l vs → RelL (E.iso src) w (isoL l) vs
  | [], vs, _, h => by simpa [isoL, RelL] using h
  | a :: l, vs, hs, h => by
    simp only [isoL, RelL] at h ⊢
    obtain ⟨v, us, rfl, h1, h⟩ := h
    simp only [srcsL, uniN_eq] at hs
    exact ⟨v, us, rfl, Rel.iso (fun i hi => hs i (mem_uni (List.mem_append.2 (.inl hi)))) h1, RelL.iso (fun i hi => hs i (mem_uni (List.mem_append.2 (.inr hi)))) h⟩
end

mutual
theorem Rel.back {E E' : Env} {w : World} {src : List Nat} (hT : ∀ b, E'.T b → (∃ o v, w.cell? ⟨b, o, none⟩ = some v) → E.ok src b) : ∀ {a : AV} {v : Value}, Rel E' w a v → Rel E w (back src a) v
  | .int _ _, v, h => by simpa [Sx.back, Rel] using h
  | .bool _, v, h => by simpa [Sx.back, Rel] using h
  | .str _, v, h => by simpa [Sx.back, Rel] using h
  | .nilp, v, h => by simpa [Sx.back, Rel] using h
  | .nsl _, v, h => by simpa [Sx.back, Rel] using h
  | .nilfn, v, h => by simpa [Sx.back, Rel] using h
  | .nilif, v, h => by simpa [Sx.back, Rel] using h
  | .view s t xs, v, h => by
    simp only [Sx.back, Rel] at h ⊢
    exact DRep.keep (t := .list t) (fun b hb hex => ⟨hT b hb.1 hex, fun _ _ h => h⟩) h
  | .agg l, v, h => by
    simp only [Sx.back, Rel] at h ⊢
    obtain ⟨vs, rfl, h⟩ := h
    exact ⟨vs, rfl, RelL.back hT h⟩
  | .tup l, v, h => by
    simp only [Sx.back, Rel] at h ⊢
    obtain ⟨vs, rfl, h⟩ := h
    exact ⟨vs, rfl, RelL.back hT h⟩
  | .bad, v, h => by simp [Sx.back, Rel]
  | .und, v, h => by simp [Sx.back, Rel]
  | .vptr s cells, v, h => by
    simp only [Sx.back, Rel] at h ⊢
    obtain ⟨b, off, vs, rfl, hok, hc, hr, hne⟩ := h
    have hl : 0 < vs.length := by rw [hr.length]; exact List.length_pos_iff.2 hne
    refine ⟨b, off, vs, rfl, hT b hok.1 (hc.some hl), hc, RelL.back hT hr, ?_⟩
    cases cells with
    | nil => exact absurd rfl hne
    | cons a l => simp [backL]
  | .ptr _ _, v, h => by simp [Sx.back, Rel]
  | .vsl _ _ _ _, v, h => by simp [Sx.back, Rel]
  | .own _, v, h => by simp [Sx.back, Rel]
  | .sub _ _, v, h => by simp [Sx.back, Rel]
  | .rptr _ _ _ _, v, h => by simp [Sx.back, Rel]
  | .fn f a b, v, h => by
    simp only [Sx.back, Rel] at h ⊢
    obtain ⟨x, y, rfl, h1, h2⟩ := h
    exact ⟨x, y, rfl, RelL.back hT h1, RelL.back hT h2⟩
  | .iface _ _, v, h => by simp [Sx.back, Rel]
theorem RelL.back {E E' : Env} {w : World} {src : List Nat} (hT : ∀ b, E'.T b → (∃ o v, w.cell? ⟨b, o, none⟩ = some v) → E.ok src b) : ∀ {l : List AV} {vs : List Value}, RelL E' w l vs → RelL E w (backL src l) vs
  | [], vs, h => by simpa [backL, RelL] using h
  | a :: l, vs, h => by
    simp only [backL, RelL] at h ⊢
    obtain ⟨v, us, rfl, h1, h⟩ := h
    exact ⟨v, us, rfl, Rel.back hT h1, RelL.back hT h⟩
end

theorem killB_nil (bk : Blk) : killB [] [] bk = bk := by
  cases bk with
  | dead => rfl
  | var cells => simp [killB, killL_nil]
  | row e t xs src => simp [killB, hits_nil]

/-- A call that needs no block of one's own, in whatever memory. -/
theorem iso_calls {P : Program} {call : ACall} (hC : CallOK P call) {f : FuncId} {args : List AV} {m : List Blk} {K : AK} {R : AOut → Prop}
    (h : call f (isoL args) [] fun out m' _ _ => R (freezeO m' out)) (hR : ∀ out, R out → K (backO (srcsL args) out) m [] []) :
    ∀ B E w vs, SatM B E m w → RelL E w args vs → Calls P f vs.toArray w fun e w' => ∃ out m' k1 k2 E', K out m' k1 k2 ∧ SatM B E' m' w' ∧ EKeep E w E' w' k1 k2 ∧ OutR E' w' out e := by
  intro B E w vs hM hA
  have hM1 : SatM ⟨w, fun _ => False, E.ok (srcsL args)⟩ (E.iso (srcsL args)) [] w := by
    refine ⟨fun i bk h => by simp at h, fun _ _ => rfl, fun i j b h => by simp [Env.iso] at h, fun i b h => by simp [Env.iso] at h, rfl, rfl, rfl, Nat.le_refl _, fun _ _ _ => rfl, fun b => ?_, fun b h => h.elim⟩
    simp only [Env.iso]
    refine ⟨.inl, fun h => h.elim id fun h => ⟨(hM.T b).2 (.inr (Nat.le_trans hM.size h)), fun i hi => ?_⟩⟩
    have h1 : w.heap.size ≤ b := h
    have := (hM.old i b hi).2
    omega
  refine (hC.calls h _ _ w vs hM1 (RelL.iso (fun _ h => h) hA)).mono fun e w' he => ?_
  obtain ⟨out, m', k1, k2, E', hr, hS, _, ho⟩ := he
  have hsame : ∀ b, b < w.heap.size → w'.heap[b]? = w.heap[b]? := fun b hb => hS.frame b hb (fun x => x)
  have hk : EKeep E w E w' [] [] := by
    refine ⟨fun _ _ _ h => h, fun _ _ => rfl, fun src _ b hok hex => ⟨hok, fun o v hv => ?_⟩⟩
    have hlt := World.block_lt_of_cell? w _ hv
    rw [← hv]
    exact World.cell?_of_block (w := w) (w' := w') (a := ⟨b, o, none⟩) (hsame b hlt)
  refine ⟨_, m, [], [], E, hR (freezeO m' out) hr, ?_, hk, ?_⟩
  · refine ⟨fun i bk hb => ?_, hM.out, hM.inj, fun i b hb => ⟨(hM.old i b hb).1, Nat.lt_of_lt_of_le (hM.old i b hb).2 hS.size⟩, hS.os.trans hM.os, hS.tape.trans hM.tape, hS.output.trans hM.output, Nat.le_trans hM.size hS.size,
      fun b hb hF => (hsame b (Nat.lt_of_lt_of_le hb hM.size)).trans (hM.frame b hb hF), hM.T, hM.FT⟩
    have := (hM.blk i bk hb).keep hk (fun b hb => hsame b (hM.old i b hb).2) rfl rfl
    rwa [killB_nil] at this
  · have hT : ∀ b, E'.T b → (∃ o v, w'.cell? ⟨b, o, none⟩ = some v) → E.ok (srcsL args) b := by
      intro b hb hex
      rcases (hS.T b).1 hb with h | h
      · exact h
      · refine ⟨(hM.T b).2 (.inr (Nat.le_trans hM.size h)), fun i hi => ?_⟩
        have h1 : w.heap.size ≤ b := h
        have := (hM.old i b hi).2
        omega
    cases out with
    | ret av => obtain ⟨v, rfl, hv⟩ := ho; exact ⟨v, rfl, Rel.back hT (freeze_rel hS 8 hv)⟩
    | panic av => obtain ⟨v, rfl, hv⟩ := ho; exact ⟨v, rfl, Rel.back hT (freeze_rel hS 8 hv)⟩

/-- What is said of a function that needs no block of one's own: by what it returns. -/
theorem specOK_pure {P : Program} {call : ACall} (hC : CallOK P call) {f : FuncId} {S : List AV → List Blk → AK → Prop} (step : ∀ vs w, (callFunc f vs).run P w = .ok (.enter f vs) w)
    (h : ∀ args m K, S args m K → ∃ v, call f (isoL args) [] (fun out m' _ _ => freezeO m' out = .ret v) ∧ K (.ret (back (srcsL args) v)) m [] []) : SpecOK P f S := by
  refine ⟨step, fun {args m K} hS => ?_⟩
  obtain ⟨v, h1, h2⟩ := h args m K hS
  exact iso_calls (R := fun o => o = .ret v) hC h1 (fun out ho => by rw [ho]; exact h2)

/-- What is told of the answer of a function that needs no block of one's own. -/
theorem fspecOK_pure {P : Program} {call : ACall} (hC : CallOK P call) {f : FuncId} {F : FSpec} (step : ∀ vs w, (callFunc f vs).run P w = .ok (.enter f vs) w)
    (h : ∀ args m ps v, F args m = some (ps, v) → AllP ps → ∃ u, call f (isoL args) [] (fun out m' _ _ => freezeO m' out = .ret u) ∧ back (srcsL args) u = v) : SpecOK P f (fspecS F) :=
  specOK_pure hC step fun args m K hS => by
    unfold fspecS at hS
    split at hS
    · rename_i ps v hF
      have hS := needL_iff.1 hS
      obtain ⟨u, h1, h2⟩ := h args m ps v hF hS.1
      exact ⟨u, h1, by rw [h2]; exact hS.2⟩
    · exact hS.elim

/-- What is told of an answer out of what is read alone. -/
theorem pureF_ok {P : Program} {call : ACall} (hC : CallOK P call) {f : FuncId} {F : List AV → OV} (step : ∀ vs w, (callFunc f vs).run P w = .ok (.enter f vs) w)
    (h : ∀ args ps v, F args = some (ps, v) → AllP ps → call f args [] (fun out m' _ _ => freezeO m' out = .ret v)) : SpecOK P f (fspecS (pureF F)) := by
  refine ⟨step, fun {args m K} hS => ?_⟩
  unfold fspecS pureF at hS
  intro B E w vs hM hA
  have hA' : RelL E w (mapAV (freeze m 8) args) vs := mapAV_rel (fun h => freeze_rel hM 8 h) hA
  cases hF : F (isoL (mapAV (freeze m 8) args)) with
  | none => rw [hF] at hS; exact (show False from hS).elim
  | some r =>
    obtain ⟨ps, v⟩ := r
    rw [hF] at hS
    have hS := needL_iff.1 hS
    exact iso_calls (args := mapAV (freeze m 8) args) (m := m) (R := fun o => o = .ret v) hC (h _ ps v hF hS.1) (fun out ho => by rw [ho]; exact hS.2) B E w vs hM hA'

/-! ### loops -/

theorem subN_spec : ∀ {k l : List Nat}, subN k l = true → ∀ i ∈ k, i ∈ l
  | [], _, _, i, hi => by cases hi
  | a :: k, l, h, i, hi => by
    simp only [subN] at h
    split at h
    · rename_i hm
      cases hi with
      | head => exact memb_true hm
      | tail _ hi => exact subN_spec h i hi
    · cases h
def NilC (n n' : Nat) (E : Env) : Prop := ∀ i, n ≤ i → i < n' → E.sl i = .slice none 0 0
theorem sameK_le {x y : AV} {K : Prop} (h : sameK x y K) : (∀ E w v, Rel E w x v → Rel E w y v) ∧ K := by
  have := sameK_eq h
  rw [this.1]
  exact ⟨fun _ _ _ h => h, this.2⟩
theorem view_cast {E : Env} {w : World} {s s' : List Nat} {t t' : Ty} {xs : List (den t)} {ys : List (den t')} {v : Value} (hs : subN s s' = true) (hc : castL t t' xs = some ys) (h : Rel E w (.view s t xs) v) : Rel E w (.view s' t' ys) v := by
  obtain ⟨e, rfl⟩ := castL_eq hc
  subst e
  exact view_mono (subN_spec hs) h
theorem leT_sound {n n' : Nat} {x y : AV} {K : Prop} (h : leT n n' x y K) : (∀ E w v, NilC n n' E → Rel E w x v → Rel E w y v) ∧ K := by
  unfold leT at h
  split at h
  · exact ⟨fun E w v _ _ => by simp [Rel], h⟩
  · split at h
    · split at h
      · rename_i hb
        have hb := andb_split hb
        refine ⟨fun E w v hn hv => ?_, h⟩
        obtain ⟨a, rfl, ha⟩ := hv
        have := ha rfl
        subst this
        refine ⟨(hn _ (ble_true hb.1) (blt_lt hb.2)).symm, none, 0, 0, rfl⟩
      · exact h.elim
    · have := sameK_le h; exact ⟨fun E w v _ => this.1 E w v, this.2⟩
  · split at h
    · split at h
      · rename_i hs hc
        refine ⟨fun E w v _ hv => ?_, h.2⟩
        rw [← h.1]
        exact view_cast hs hc hv
      · exact h.elim
    · refine ⟨fun E w v _ hv => ?_, h.2⟩
      rw [← h.1]
      exact nsl_view hv
    · exact h.elim
  · have := sameK_le h; exact ⟨fun E w v _ => this.1 E w v, this.2⟩
theorem leTs_sound {n n' : Nat} : ∀ {l l' : List AV} {K : Prop}, leTs n n' l l' K → (∀ E w vs, NilC n n' E → RelL E w l vs → RelL E w l' vs) ∧ K
  | [], [], K, h => ⟨fun _ _ _ _ h => h, h⟩
  | a :: l, b :: l', K, h => by
    simp only [leTs] at h
    have h1 := leT_sound h
    have h2 := leTs_sound h1.2
    refine ⟨fun E w vs hn hv => ?_, h2.2⟩
    obtain ⟨v, us, rfl, h3, h4⟩ := hv
    exact ⟨v, us, rfl, h1.1 E w v hn h3, h2.1 E w us hn h4⟩
  | [], _ :: _, _, h => h.elim
  | _ :: _, [], _, h => h.elim
theorem leBk_sound {n n' : Nat} {x y : Blk} {K : Prop} (h : leBk n n' x y K) : (∀ E w i, NilC n n' E → SatB E w i x → SatB E w i y) ∧ K := by
  unfold leBk at h
  split at h
  · have := leTs_sound h
    refine ⟨fun E w i hn hs => ?_, this.2⟩
    obtain ⟨b, vs, T, h1, h2, h3⟩ := hs
    exact ⟨b, vs, T, h1, h2, this.1 E w vs hn h3⟩
  · exact ⟨fun _ _ _ _ _ => trivial, h⟩
  · split at h
    · rename_i he hs hc
      refine ⟨fun E w i hn hb => ?_, h.2⟩
      have he := beq_true he
      subst he
      obtain ⟨e, rfl⟩ := castL_eq hc
      subst e
      rw [← h.1]
      obtain ⟨hl, cells, h1, h2, h3⟩ := hb
      exact ⟨hl, cells, h1, h2, h3.keep fun b hb _ => ⟨Env.ok_mono (subN_spec hs) hb, fun _ _ h => h⟩⟩
    · exact h.elim
  · exact h.elim
def NewB (y : Blk) : Prop := y = .dead ∨ ∃ e t src, y = .row e t [] src
theorem newM_sound {k1 : List Nat} : ∀ {l : List Blk} {i : Nat} {K : Prop}, newM k1 i l K → (∀ (j : Nat) (y : Blk), l[j]? = some y → NewB y ∧ i + j ∈ k1) ∧ K
  | [], i, K, h => ⟨fun j y hj => by simp at hj, h⟩
  | .row e t xs s :: l, i, K, h => by
    simp only [newM] at h
    split at h
    · rename_i hm
      obtain ⟨rfl, h⟩ := h
      have := newM_sound h
      refine ⟨fun j y hj => ?_, this.2⟩
      cases j with
      | zero => simp only [List.getElem?_cons_zero, Option.some.injEq] at hj; subst hj; exact ⟨.inr ⟨e, t, s, rfl⟩, memb_true hm⟩
      | succ j => have := this.1 j y (by simpa using hj); exact ⟨this.1, by rw [← Nat.add_assoc, Nat.add_right_comm]; exact this.2⟩
    · exact h.elim
  | .dead :: l, i, K, h => by
    simp only [newM] at h
    split at h
    · rename_i hm
      have := newM_sound h
      refine ⟨fun j y hj => ?_, this.2⟩
      cases j with
      | zero => simp only [List.getElem?_cons_zero, Option.some.injEq] at hj; subst hj; exact ⟨.inl rfl, memb_true hm⟩
      | succ j => have := this.1 j y (by simpa using hj); exact ⟨this.1, by rw [← Nat.add_assoc, Nat.add_right_comm]; exact this.2⟩
    · exact h.elim
  | .var _ :: _, _, _, h => h.elim
theorem oldM_sound {k1 : List Nat} : ∀ {l : List Blk} {i : Nat} {K : Prop}, oldM k1 i l K → (∀ j, j < l.length → i + j ∈ k1) ∧ K
  | [], i, K, h => ⟨fun j hj => by simp at hj, h⟩
  | a :: l, i, K, h => by
    simp only [oldM] at h
    split at h
    · rename_i hm
      have := oldM_sound h
      refine ⟨fun j hj => ?_, this.2⟩
      cases j with
      | zero => exact memb_true hm
      | succ j => have := this.1 j (by simpa using hj); rw [← Nat.add_assoc, Nat.add_right_comm]; exact this
    · exact h.elim
theorem leM_sound {n n' : Nat} {k1 : List Nat} : ∀ {m m' : List Blk} {i : Nat} {K : Prop}, leM n n' k1 i m m' K →
    (∀ (j : Nat) (y : Blk), m'[j]? = some y → (∃ x : Blk, m[j]? = some x ∧ ∀ E w k, NilC n n' E → SatB E w k x → SatB E w k y) ∨ (m.length ≤ j ∧ NewB y ∧ i + j ∈ k1)) ∧ (∀ j, m'.length ≤ j → j < m.length → i + j ∈ k1) ∧ K
  | [], [], i, K, h => ⟨fun j y hj => by simp at hj, fun j _ hj => by simp at hj, h⟩
  | a :: l, b :: l', i, K, h => by
    simp only [leM] at h
    have h1 := leBk_sound h
    have h2 := leM_sound h1.2
    refine ⟨fun j y hj => ?_, fun j h3 h4 => ?_, h2.2.2⟩
    · cases j with
      | zero => simp only [List.getElem?_cons_zero, Option.some.injEq] at hj; subst hj; exact .inl ⟨a, rfl, h1.1⟩
      | succ j =>
        rcases h2.1 j y (by simpa using hj) with h | h
        · exact .inl (by simpa using h)
        · exact .inr ⟨by simpa using h.1, h.2.1, by rw [← Nat.add_assoc, Nat.add_right_comm]; exact h.2.2⟩
    · cases j with
      | zero => simp at h3
      | succ j => have := h2.2.1 j (by simpa using h3) (by simpa using h4); rw [← Nat.add_assoc, Nat.add_right_comm]; exact this
  | [], b :: l', i, K, h => by
    have := newM_sound (show newM k1 i (b :: l') K from h)
    exact ⟨fun j y hj => .inr ⟨by simp, this.1 j y hj⟩, fun j _ hj => by simp at hj, this.2⟩
  | a :: l, [], i, K, h => by
    have := oldM_sound (show oldM k1 i (a :: l) K from h)
    exact ⟨fun j y hj => by simp at hj, fun j _ hj => this.1 j hj, this.2⟩
theorem SatB.trim {E E0 : Env} {w : World} {n i : Nat} {bk : Blk} (hi : i < n) (hr : ∀ l, bk = .var l → refsL n l = true) (h : SatB E w i bk) : SatB (E.trim E0 n) w i bk := by
  cases bk with
  | dead => trivial
  | var l =>
    obtain ⟨b, vs, T, h1, h2, h3⟩ := h
    exact ⟨b, vs, T, Env.trim_bl hi h1, h2, h3.trim (hr l rfl)⟩
  | row e t xs src =>
    obtain ⟨hl, cells, hown, h1, h2⟩ := h
    exact ⟨hl, cells, by simpa [Env.trim, hi] using hown, by simp [Env.trim, hi, h1], h2.keep fun b hb _ => ⟨Env.trim_ok hb, fun _ _ h => h⟩⟩
theorem orb_split {a b : Bool} (h : orb a b = true) : a = true ∨ b = true := by cases a <;> simp_all [orb]
theorem Env.trim_cut {E E0 : Env} {n : Nat} {src : List Nat} {b : Nat} (h : E.ok src b) : (E.trim E0 n).ok (filtN n src) b := by
  refine ⟨h.1, fun i hi => ?_⟩
  simp only [Env.trim] at hi
  split at hi
  · rename_i hlt; exact mem_filtN (h.2 i hi) hlt
  · cases hi
mutual
theorem Rel.cut {E E0 : Env} {w : World} {n : Nat} : ∀ {a : AV} {v : Value}, Rel E w a v → Rel (E.trim E0 n) w (cutV n a) v
  | .bad, v, h => by simp [cutV, Rel]
  | .und, v, h => by simpa [cutV, Rel] using h
  | .int _ _, v, h => by simpa [cutV, Rel] using h
  | .bool _, v, h => by simpa [cutV, Rel] using h
  | .str _, v, h => by simpa [cutV, Rel] using h
  | .nilp, v, h => by simpa [cutV, Rel] using h
  | .nsl _, v, h => by simpa [cutV, Rel] using h
  | .nilfn, v, h => by simpa [cutV, Rel] using h
  | .nilif, v, h => by simpa [cutV, Rel] using h
  | .view src t xs, v, h => by
    simp only [cutV, Rel] at h ⊢
    exact DRep.keep (t := .list t) (fun b hb _ => ⟨Env.trim_cut hb, fun _ _ h => h⟩) h
  | .vptr src cells, v, h => by
    simp only [cutV, Rel] at h ⊢
    obtain ⟨b, off, vs, rfl, hok, hc, hl, hne⟩ := h
    refine ⟨b, off, vs, rfl, Env.trim_cut hok, hc, RelL.cut hl, ?_⟩
    cases cells with
    | nil => exact absurd rfl hne
    | cons a l => simp [cutL]
  | .ptr i off, v, h => by
    simp only [cutV]
    cases hb : Nat.blt i n with
    | true =>
      simp only [Rel] at h ⊢
      obtain ⟨b, hbl, rfl⟩ := h
      exact ⟨b, Env.trim_bl (blt_lt hb) hbl, rfl⟩
    | false => simp [Rel]
  | .vsl i off len cap, v, h => by
    simp only [cutV]
    cases hb : Nat.blt i n with
    | true =>
      simp only [Rel] at h ⊢
      obtain ⟨b, hbl, rfl⟩ := h
      exact ⟨b, Env.trim_bl (blt_lt hb) hbl, rfl⟩
    | false => simp [Rel]
  | .own i, v, h => by
    simp only [cutV]
    cases hb : Nat.blt i n with
    | true =>
      simp only [Rel] at h ⊢
      simpa [Env.trim, blt_lt hb] using h
    | false => simp [Rel]
  | .sub i k, v, h => by
    simp only [cutV]
    cases hb : Nat.blt i n with
    | true =>
      simp only [Rel] at h ⊢
      simpa [Env.trim, blt_lt hb] using h
    | false => simp [Rel]
  | .rptr i t idx off, v, h => by
    simp only [cutV]
    cases hb : Nat.blt i n with
    | true =>
      simp only [Rel] at h ⊢
      obtain ⟨b, hbl, rfl⟩ := h
      exact ⟨b, Env.trim_bl (blt_lt hb) hbl, rfl⟩
    | false => simp [Rel]
  | .agg l, v, h => by
    simp only [cutV, Rel] at h ⊢
    obtain ⟨vs, rfl, h⟩ := h
    exact ⟨vs, rfl, RelL.cut h⟩
  | .tup l, v, h => by
    simp only [cutV, Rel] at h ⊢
    obtain ⟨vs, rfl, h⟩ := h
    exact ⟨vs, rfl, RelL.cut h⟩
  | .fn f l m, v, h => by
    simp only [cutV, Rel] at h ⊢
    obtain ⟨a, b, rfl, h1, h2⟩ := h
    exact ⟨a, b, rfl, RelL.cut h1, RelL.cut h2⟩
  | .iface t x, v, h => by
    simp only [cutV, Rel] at h ⊢
    obtain ⟨u, rfl, h⟩ := h
    exact ⟨u, rfl, Rel.cut h⟩
theorem RelL.cut {E E0 : Env} {w : World} {n : Nat} : ∀ {l : List AV} {vs : List Value}, RelL E w l vs → RelL (E.trim E0 n) w (cutL n l) vs
  | [], vs, h => by simpa [cutL, RelL] using h
  | a :: l, vs, h => by
    simp only [RelL, cutL] at h ⊢
    obtain ⟨v, us, rfl, h1, h⟩ := h
    exact ⟨v, us, rfl, Rel.cut h1, RelL.cut h⟩
end
theorem cutM_get {n : Nat} : ∀ {m : List Blk} {i : Nat} {bk : Blk}, (cutM n m)[i]? = some bk → ∃ b0, m[i]? = some b0 ∧ bk = cutB n b0
  | [], i, bk, h => by simp [cutM] at h
  | a :: m, i, bk, h => by
    cases i with
    | zero =>
      simp only [cutM, List.getElem?_cons_zero, Option.some.injEq] at h
      exact ⟨a, rfl, h.symm⟩
    | succ i => exact cutM_get (m := m) (i := i) (by simpa [cutM] using h)
theorem cutM_len {n : Nat} : ∀ m : List Blk, (cutM n m).length = m.length
  | [] => rfl
  | _ :: m => by simp [cutM, cutM_len m]
theorem rngFrom_mem : ∀ {k i j : Nat}, i ≤ j → j < i + k → j ∈ rngFrom k i
  | 0, i, j, h1, h2 => by omega
  | k + 1, i, j, h1, h2 => by
    simp only [rngFrom]
    by_cases e : j = i
    · subst e; simp
    · exact List.mem_cons_of_mem _ (rngFrom_mem (by omega) (by omega))
theorem dropS_sound {σ : St} {n : Nat} (hn : n < σ.mem.length) {C : Ctx} {E : Env} {w : World} {a : Act} (hS : SatS C E w σ a) : SatS C (E.trim E n) w (dropS n σ) a := by
  have hM := hS.mem
  have hbl : ∀ i b, (E.trim E n).bl i = some b → E.bl i = some b ∧ i < n := by
    intro i b h
    simp only [Env.trim] at h
    split at h
    · rename_i hi; exact ⟨h, hi⟩
    · cases h
  refine ⟨⟨fun i bk hb => ?_, fun i hi => ?_, fun i j b h1 h2 => hM.inj i j b (hbl i b h1).1 (hbl j b h2).1, fun i b h => hM.old i b (hbl i b h).1, hM.os, hM.tape, hM.output, hM.size, hM.frame, hM.T, hM.FT⟩, ?_, hS.dfr, ?_⟩
  · obtain ⟨b0, h0, rfl⟩ := cutM_get hb
    rw [mtake_eq, List.getElem?_take] at h0
    split at h0
    · rename_i hi
      have := hM.blk i b0 h0
      cases b0 with
      | dead => trivial
      | var l =>
        obtain ⟨b, vs, T, h1, h2, h3⟩ := this
        exact ⟨b, vs, T, Env.trim_bl hi h1, h2, h3.cut⟩
      | row e t xs src =>
        obtain ⟨hl, cells, hown, h1, h2⟩ := this
        exact ⟨hl, cells, by simpa [Env.trim, hi] using hown, by simp [Env.trim, hi, h1], h2.keep fun b hb _ => ⟨Env.trim_cut hb, fun _ _ h => h⟩⟩
    · cases h0
  · simp only [dropS, cutM_len, mtake_eq, List.length_take] at hi
    simp only [Env.trim]
    rw [if_neg (by omega)]
  · exact hS.tm.cut
  · have hk := hS.keep
    refine ⟨fun i hi b hb => ?_, fun i hi => ?_, fun src hs b hok hex => ?_⟩
    · simp only [dropS, app_eq, List.mem_append, mlen_eq] at hi
      have h5 := hk.1 i (fun hc => hi (.inr hc)) b hb
      by_cases h6 : i < n
      · exact Env.trim_bl h6 h5
      · exfalso
        by_cases h7 : i < σ.mem.length
        · exact hi (.inl (rngFrom_mem (by omega) (by omega)))
        · rw [hM.out i (by omega)] at h5; cases h5
    · simp only [dropS, app_eq, List.mem_append] at hi
      rw [← hk.2.1 i (fun hc => hi (.inr hc))]
      simp only [Env.trim]
      split <;> rfl
    · have := hk.2.2 src hs b hok hex
      exact ⟨Env.trim_ok this.1, this.2⟩
theorem leS0_sound {σ σ' : St} {K : Prop} (h : leS0 σ σ' K) : (∀ {C E w a}, SatS C E w σ a → ∃ E', SatS C E' w σ' a) ∧ K := by
  unfold leS0 at h
  simp only at h
  split at h
  · rename_i hc
    have hc1 := andb_split hc
    have hc2 := andb_split hc1.2
    have hc3 := andb_split hc2.2
    have h3 := leTs_sound h
    have h4 := leM_sound h3.2
    refine ⟨fun {C E w a} hS => ?_, h4.2.2⟩
    have hM := hS.mem
    simp only [mlen_eq] at *
    -- where the blocks stand
    by_cases hle : σ.mem.length ≤ σ'.mem.length
    · -- new rows, or none
      let E1 : Env := { E with sl := fun i => if i < σ'.mem.length then .slice none 0 0 else E.sl i }
      let E' : Env := E.trim E1 σ.mem.length
      have hbl : ∀ i, E'.bl i = E.bl i := by
        intro i
        show (if i < σ.mem.length then E.bl i else none) = E.bl i
        split
        · rfl
        · rename_i hi; rw [hM.out i (by omega)]
      have hn : NilC σ.mem.length σ'.mem.length E' := by
        intro i h1 h2
        show (if i < σ.mem.length then E.sl i else if i < σ'.mem.length then _ else _) = _
        rw [if_neg (by omega), if_pos h2]
      have hrefs : σ'.mem.length = σ.mem.length ∨ (refsL σ.mem.length σ.tm = true ∧ refsM σ.mem.length σ.mem = true) := by
        rcases orb_split hc3.1 with h | h
        · have := ble_true h; exact .inl (by omega)
        · exact .inr (andb_split h)
      have hsame : σ'.mem.length = σ.mem.length → E' = E := by
        intro he
        show Env.mk (fun i => if i < σ.mem.length then E.bl i else none) (fun i => if i < σ.mem.length then E.sl i else if i < σ'.mem.length then .slice none 0 0 else E.sl i) E.T = E
        have e1 : (fun i => if i < σ.mem.length then E.bl i else none) = E.bl := funext hbl
        have e2 : (fun i => if i < σ.mem.length then E.sl i else if i < σ'.mem.length then Value.slice none 0 0 else E.sl i) = E.sl := by
          funext i; split
          · rfl
          · rw [if_neg (by omega)]
        rw [e1, e2]
      have htm : RelL E' w σ.tm a.tmps.toList := by
        rcases hrefs with h | h
        · rw [hsame h]; exact hS.tm
        · exact hS.tm.trim h.1
      have hblk : ∀ i bk, σ.mem[i]? = some bk → SatB E' w i bk := by
        intro i bk hb
        rcases hrefs with h | h
        · rw [hsame h]; exact hM.blk i bk hb
        · have hi : i < σ.mem.length := (List.getElem?_eq_some_iff.1 hb).1
          exact (hM.blk i bk hb).trim hi (fun l hl => refsM_get h.2 (by rw [hb, hl]))
      refine ⟨E', ⟨fun i bk hb => ?_, fun i hi => by rw [hbl]; exact hM.out i (by omega), fun i j b => by rw [hbl, hbl]; exact hM.inj i j b, fun i b => by rw [hbl]; exact hM.old i b, hM.os, hM.tape, hM.output, hM.size, hM.frame, hM.T, hM.FT⟩, h3.1 E' w _ hn htm, hS.dfr, ?_⟩
      · rcases h4.1 i bk hb with ⟨x, hx, hxy⟩ | ⟨h5, h6, h7⟩
        · exact hxy _ _ _ hn (hblk i x hx)
        · rcases h6 with rfl | ⟨e, t, src, rfl⟩
          · trivial
          · have hi : i < σ'.mem.length := (List.getElem?_eq_some_iff.1 hb).1
            have hsl := hn i h5 hi
            refine ⟨by simp [LIM], [], ?_, ?_, rfl⟩
            · rw [hsl]; exact World.ownsRow_nil _ _ _ _
            · rw [hsl, hbl, hM.out i h5]; rfl
      · have hk := hS.keep.sub (subN_spec hc1.1) (subN_spec hc2.1)
        refine ⟨fun i hi b hb => by rw [hbl]; exact hk.1 i hi b hb, fun i hi => ?_, fun src hs b hok hex => ?_⟩
        · rw [← hk.2.1 i hi]
          show (if i < σ.mem.length then E.sl i else if i < σ'.mem.length then _ else _) = _
          split
          · rfl
          · split
            · rename_i h5 h6
              exfalso
              have hg : ∃ y, σ'.mem[i]? = some y := ⟨_, List.getElem?_eq_getElem h6⟩
              obtain ⟨y, hy⟩ := hg
              rcases h4.1 i y hy with ⟨x, hx, _⟩ | ⟨_, _, h7⟩
              · exact h5 (List.getElem?_eq_some_iff.1 hx).1
              · exact hi (by simpa using h7)
            · rfl
        · have := hk.2.2 src hs b hok hex
          exact ⟨Env.trim_ok this.1, this.2⟩
    · -- fewer blocks
      have hlt : σ'.mem.length < σ.mem.length := by omega
      have hn : NilC σ.mem.length σ'.mem.length E := fun i h1 h2 => by omega
      have hrefs : refsL σ'.mem.length σ'.tm = true ∧ refsM σ'.mem.length σ'.mem = true := by
        rcases orb_split hc3.2 with h | h
        · have := ble_true h; omega
        · exact andb_split h
      let E' : Env := E.trim E σ'.mem.length
      have hbl : ∀ i b, E'.bl i = some b → E.bl i = some b ∧ i < σ'.mem.length := by
        intro i b h
        have h' : (if i < σ'.mem.length then E.bl i else none) = some b := h
        split at h'
        · rename_i hi; exact ⟨h', hi⟩
        · cases h'
      refine ⟨E', ⟨fun i bk hb => ?_, fun i hi => ?_, fun i j b h1 h2 => hM.inj i j b (hbl i b h1).1 (hbl j b h2).1, fun i b h => hM.old i b (hbl i b h).1, hM.os, hM.tape, hM.output, hM.size, hM.frame, hM.T, hM.FT⟩, (h3.1 E w _ hn hS.tm).trim hrefs.1, hS.dfr, ?_⟩
      · have hi : i < σ'.mem.length := (List.getElem?_eq_some_iff.1 hb).1
        rcases h4.1 i bk hb with ⟨x, hx, hxy⟩ | ⟨h5, _, _⟩
        · exact (hxy E w i hn (hM.blk i x hx)).trim hi (fun l hl => refsM_get hrefs.2 (by rw [hb, hl]))
        · omega
      · show (if i < σ'.mem.length then E.bl i else none) = none
        rw [if_neg (by omega)]
      · have hk := hS.keep.sub (subN_spec hc1.1) (subN_spec hc2.1)
        refine ⟨fun i hi b hb => ?_, fun i hi => ?_, fun src hs b hok hex => ?_⟩
        · have h5 := hk.1 i hi b hb
          by_cases h6 : i < σ'.mem.length
          · exact Env.trim_bl h6 h5
          · exfalso
            by_cases h7 : i < σ.mem.length
            · exact hi (by simpa using h4.2.1 i (by omega) h7)
            · rw [hM.out i (by omega)] at h5; cases h5
        · rw [← hk.2.1 i hi]
          show (if i < σ'.mem.length then E.sl i else E.sl i) = _
          split <;> rfl
        · have := hk.2.2 src hs b hok hex
          exact ⟨Env.trim_ok this.1, this.2⟩
  · exact h.elim

theorem leS_sound {σ σ' : St} {K : Prop} (h : leS σ σ' K) : (∀ {C E w a}, SatS C E w σ a → ∃ E', SatS C E' w σ' a) ∧ K := by
  unfold leS at h
  split at h
  · rename_i hb
    have hb := blt_lt hb
    rw [mlen_eq, mlen_eq] at hb
    have h1 := leS0_sound h
    refine ⟨fun {C E w a} hS => ?_, h1.2⟩
    rw [mlen_eq] at h1
    exact h1.1 (dropS_sound hb hS)
  · exact leS0_sound h

/-- A loop, by what stays so. -/
theorem loop_rule {P : Program} {tab : Tab} {fs : FS} {call : ACall} (hT : TabOK P tab) (hFS : FSOK P fs) (hC : CallOK P call) (hD : ∀ C, DrawOK P tab fs call C) {L : Loops} {fuel : Nat} {c : Code} (hL : LoopsOK P L c)
    {X : Type} (shape : X → St) (sx : AExit → X → St) (Inv : X → Prop) (meas : X → Nat) {Q : AExit → St → Prop} {QX : AExit → X → Prop} (hQ : ∀ e y, QX e y → Q e (sx e y))
    (hb : ∀ x, Inv x → awp tab fs call L fuel c (bodyK shape sx Inv meas (meas x) QX) (shape x)) {x : X} (hx : Inv x) {C : Ctx} {E : Env} {w : World} {a : Act} (hS : SatS C E w (shape x) a) :
    (Code.loop c).wp P (PQ C Q) a w := by
  have key : ∀ n x, Inv x → meas x < n → ∀ E w a, SatS C E w (shape x) a → Code.rounds P c (PQ C Q) n a w := by
    intro n
    induction n with
    | zero => intro x _ h; omega
    | succ n ih =>
      intro x hx hn E w a hS
      rw [rounds_succ]
      refine wp_mono (awp_sound hT hFS hC (hD C) hL (hb x hx) hS) fun e a' w' hq => ?_
      obtain ⟨ae, σ', E', hQ', hS', hE⟩ := hq
      cases ae with
      | normal =>
        cases hE
        obtain ⟨y, hle⟩ := hQ'
        have := leS_sound hle
        obtain ⟨E'', hS''⟩ := this.1 hS'
        exact ih y this.2.1 (by omega) E'' w' a' hS''
      | exit id =>
        cases hE
        obtain ⟨y, hle⟩ := hQ'
        have := leS_sound hle
        obtain ⟨E'', hS''⟩ := this.1 hS'
        exact ⟨_, _, E'', hQ _ _ this.2, hS'', rfl⟩
      | ret =>
        cases hE
        obtain ⟨y, hle⟩ := hQ'
        have := leS_sound hle
        obtain ⟨E'', hS''⟩ := this.1 hS'
        exact ⟨_, _, E'', hQ _ _ this.2, hS'', rfl⟩
      | panic av =>
        exact hQ'.elim
  exact wp_loop_rounds (meas x + 1) (key _ x hx (by omega) E w a hS)

/-- What is said of a loop: there is a state of its shape, and what is behind it holds of all that it may leave. -/
theorem summOK_of {P : Program} {tab : Tab} {fs : FS} {call : ACall} (hT : TabOK P tab) (hFS : FSOK P fs) (hC : CallOK P call) (hD : ∀ C, DrawOK P tab fs call C) {L : Loops} {fuel : Nat} {c : Code} (hL : LoopsOK P L c)
    {X : Type} (shape : X → St) (sx : AExit → X → St) (meas : X → Nat) {S : Summ}
    (h : ∀ Q σ, S σ Q → ∃ (x : X) (Inv : X → Prop) (QX : AExit → X → Prop), (∀ {C E w a}, SatS C E w σ a → ∃ E', SatS C E' w (shape x) a) ∧ Inv x ∧ (∀ e y, QX e y → Q e (sx e y)) ∧
      ∀ y, Inv y → awp tab fs call L fuel c (bodyK shape sx Inv meas (meas y) QX) (shape y)) : SummOK P c S := by
  intro Q σ hs C E w a hS
  obtain ⟨x, Inv, QX, hle, hi, hQ, hb⟩ := h Q σ hs
  obtain ⟨E', hS'⟩ := hle hS
  exact loop_rule hT hFS hC hD hL shape sx Inv meas hQ hb hi hS'

theorem exitsQ_spec {X : Type} {sx : AExit → X → St} {Q : AExit → St → Prop} : ∀ {l : List (Nat × (X → Prop))}, exitsQ sx Q l → ∀ k y, elook l k y → Q (.exit k) (sx (.exit k) y)
  | (j, P) :: l, h, k, y, he => by
    simp only [elook] at he
    simp only [exitsQ] at h
    split at he
    · rename_i hb
      rw [← beq_true hb]
      exact h.1 y he
    · exact exitsQ_spec h.2 k y he

/-- What is to be shown, closed to the elaborator. -/
structure Hd (p : Prop) : Prop where
  h : p
/-! what holds of every value that stands for one -/
mutual
def wfA : AV → Prop
  | .int k n => k.has n
  | .str s => s.length ≤ LIM
  | .view _ t xs => wfT (.list t) xs
  | .vptr _ l => wfAL l
  | .agg l => wfAL l
  | .tup l => wfAL l
  | .fn _ a b => wfAL a ∧ wfAL b
  | _ => True
def wfAL : List AV → Prop
  | [] => True
  | a :: l => wfA a ∧ wfAL l
end
mutual
theorem Rel.wf {E : Env} {w : World} : ∀ {a : AV} {v : Value}, Rel E w a v → wfA a
  | .int _ _, _, h => by simp only [wfA]; exact h.2
  | .str _, _, h => by simp only [wfA]; exact h.2
  | .view _ t xs, _, h => by simp only [wfA]; exact DRep.wf (t := .list t) h
  | .vptr _ l, _, h => by
    simp only [wfA]
    obtain ⟨_, _, _, _, _, _, h, _⟩ := h
    exact RelL.wf h
  | .agg l, _, h => by
    simp only [wfA]
    obtain ⟨_, _, h⟩ := h
    exact RelL.wf h
  | .tup l, _, h => by
    simp only [wfA]
    obtain ⟨_, _, h⟩ := h
    exact RelL.wf h
  | .fn _ a b, _, h => by
    simp only [wfA]
    obtain ⟨_, _, _, h1, h2⟩ := h
    exact ⟨RelL.wf h1, RelL.wf h2⟩
  | .bad, _, _ | .und, _, _ | .bool _, _, _ | .nilp, _, _ | .nsl _, _, _ | .ptr _ _, _, _ | .vsl _ _ _ _, _, _ | .own _, _, _ | .sub _ _, _, _ | .rptr _ _ _ _, _, _ | .nilfn, _, _ | .nilif, _, _ | .iface _ _, _, _ => by simp only [wfA]
theorem RelL.wf {E : Env} {w : World} : ∀ {l : List AV} {vs : List Value}, RelL E w l vs → wfAL l
  | [], _, _ => by simp only [wfAL]
  | a :: l, _, h => by
    simp only [wfAL]
    obtain ⟨_, _, _, h1, h2⟩ := h
    exact ⟨Rel.wf h1, RelL.wf h2⟩
end
theorem DRepL.wf {S : Nat → Prop} {w : World} {t : Ty} : ∀ {xs : List (den t)} {vs : List Value}, DRepL S w t xs vs → ∀ x ∈ xs, wfT t x
  | [], _, _, x, hx => by cases hx
  | y :: ys, _, h, x, hx => by
    obtain ⟨_, _, _, h1, h2⟩ := h
    cases hx with
    | head => exact h1.wf
    | tail _ hx => exact DRepL.wf h2 x hx
def wfB : Blk → Prop
  | .dead => True
  | .var l => wfAL l
  | .row _ t xs _ => wfT (.list t) xs
def wfM : List Blk → Prop
  | [] => True
  | b :: m => wfB b ∧ wfM m
theorem SatB.wf {E : Env} {w : World} {i : Nat} : ∀ {b : Blk}, SatB E w i b → wfB b
  | .dead, _ => trivial
  | .var l, h => by obtain ⟨_, _, _, _, _, h⟩ := h; exact h.wf
  | .row e t xs src, h => by obtain ⟨hl, _, _, _, h⟩ := h; exact ⟨hl, h.wf⟩
theorem wfM_of {E : Env} {w : World} : ∀ {m : List Blk} {k : Nat}, (∀ (i : Nat) bk, m[i]? = some bk → SatB E w (k + i) bk) → wfM m
  | [], _, _ => trivial
  | b :: m, k, h => ⟨(h 0 b rfl).wf, wfM_of (k := k + 1) fun i bk hi => by
      have := h (i + 1) bk (by simpa using hi)
      rwa [Nat.add_assoc, Nat.add_comm 1 i]⟩
theorem SatM.wf {B : Base} {E : Env} {m : List Blk} {w : World} (h : SatM B E m w) : wfM m := wfM_of (k := 0) fun i bk hi => by rw [Nat.zero_add]; exact h.blk i bk hi
def wfS (σ : St) : Prop := wfAL σ.tm ∧ wfM σ.mem
theorem wfAL_get : ∀ {l : List AV}, wfAL l → ∀ i, wfA (lget l i)
  | [], _, _ => by simp only [lget, wfA]
  | a :: l, h, 0 => by simp only [wfAL] at h; exact h.1
  | a :: l, h, i + 1 => by simp only [wfAL] at h; exact wfAL_get h.2 i
theorem wfM_get : ∀ {m : List Blk}, wfM m → ∀ i, wfB (mget m i)
  | [], _, _ => trivial
  | a :: l, h, 0 => h.1
  | a :: l, h, i + 1 => wfM_get h.2 i
theorem wfL_get {σ : St} (h : wfS σ) (i : Nat) : wfA (lget σ.tm i) := wfAL_get h.1 i
theorem wfR_get {σ : St} (h : wfS σ) (i : Nat) : wfB (mget σ.mem i) := wfM_get h.2 i
def cellsB : Blk → List AV
  | .var l => l
  | _ => []
theorem wfC_get {σ : St} (h : wfS σ) (i j : Nat) : wfA (lget (cellsB (mget σ.mem i)) j) := by
  have := wfM_get h.2 i
  cases hb : mget σ.mem i with
  | var l => rw [hb] at this; exact wfAL_get this j
  | dead => simp only [cellsB, lget, wfA]
  | row => simp only [cellsB, lget, wfA]
theorem wfL_int {σ : St} {k : IntKind} {n : Int} (h : wfS σ) (i : Nat) (e : lget σ.tm i = .int k n) : k.has n := by
  have := wfL_get h i; rw [e] at this; exact this
theorem wfL_str {σ : St} {s : List UInt8} (h : wfS σ) (i : Nat) (e : lget σ.tm i = .str s) : s.length ≤ LIM := by
  have := wfL_get h i; rw [e] at this; exact this
theorem wfL_view {σ : St} {src : List Nat} {t : Ty} {xs : List (den t)} (h : wfS σ) (i : Nat) (e : lget σ.tm i = .view src t xs) : wfT (.list t) xs := by
  have := wfL_get h i; rw [e] at this; exact this
theorem wfR_row {σ : St} {e0 : TypeId} {src : List Nat} {t : Ty} {xs : List (den t)} (h : wfS σ) (i : Nat) (e : mget σ.mem i = .row e0 t xs src) : wfT (.list t) xs := by
  have := wfR_get h i; rw [e] at this; exact this
theorem wfC_int {σ : St} {k : IntKind} {n : Int} (h : wfS σ) (i j : Nat) (e : lget (cellsB (mget σ.mem i)) j = .int k n) : k.has n := by
  have := wfC_get h i j; rw [e] at this; exact this
theorem wfC_str {σ : St} {s : List UInt8} (h : wfS σ) (i j : Nat) (e : lget (cellsB (mget σ.mem i)) j = .str s) : s.length ≤ LIM := by
  have := wfC_get h i j; rw [e] at this; exact this
theorem wfC_view {σ : St} {src : List Nat} {t : Ty} {xs : List (den t)} (h : wfS σ) (i j : Nat) (e : lget (cellsB (mget σ.mem i)) j = .view src t xs) : wfT (.list t) xs := by
  have := wfC_get h i j; rw [e] at this; exact this
theorem SatS.wf {C : Ctx} {E : Env} {w : World} {σ : St} {a : Act} (h : SatS C E w σ a) : wfS σ := ⟨h.tm.wf, h.mem.wf⟩

/-- A loop, by what stays so, its states read out. -/
theorem loop_ruleN {P : Program} {tab : Tab} {fs : FS} {call : ACall} (hT : TabOK P tab) (hFS : FSOK P fs) (hC : CallOK P call) (hD : ∀ C, DrawOK P tab fs call C) {L : Loops} {fuel : Nat} {c : Code} (hL : LoopsOK P L c)
    {X : Type} (shape : X → St) (sx : AExit → X → St) (nx : St → X) (Inv : X → Prop) (meas : X → Nat) {Q : AExit → St → Prop} {D : LEnds X} (hQ : ∀ k y, elook D.exits k y → Q (.exit k) (sx (.exit k) y)) (hR : ∀ y, D.ret y → Q .ret (sx .ret y))
    (hb : ∀ x, Inv x → wfS (shape x) → awp tab fs call L fuel c (bodyN shape sx nx Inv meas (meas x) D) (shape x)) {x : X} (hx : Inv x) {C : Ctx} {E : Env} {w : World} {a : Act} (hS : SatS C E w (shape x) a) :
    (Code.loop c).wp P (PQ C Q) a w := by
  have key : ∀ n x, Inv x → meas x < n → ∀ E w a, SatS C E w (shape x) a → Code.rounds P c (PQ C Q) n a w := by
    intro n
    induction n with
    | zero => intro x _ h; omega
    | succ n ih =>
      intro x hx hn E w a hS
      rw [rounds_succ]
      refine wp_mono (awp_sound hT hFS hC (hD C) hL (hb x hx hS.wf) hS) fun e a' w' hq => ?_
      obtain ⟨ae, σ', E', hQ', hS', hE⟩ := hq
      cases ae with
      | normal =>
        cases hE
        have := leS_sound hQ'
        obtain ⟨E'', hS''⟩ := this.1 hS'
        exact ih _ this.2.1 (by omega) E'' w' a' hS''
      | exit id =>
        cases hE
        have := leS_sound hQ'
        obtain ⟨E'', hS''⟩ := this.1 hS'
        exact ⟨_, _, E'', hQ _ _ this.2, hS'', rfl⟩
      | ret =>
        cases hE
        have := leS_sound hQ'
        obtain ⟨E'', hS''⟩ := this.1 hS'
        exact ⟨_, _, E'', hR _ this.2, hS'', rfl⟩
      | panic av => exact (show False from hQ').elim
  exact wp_loop_rounds (meas x + 1) (key _ x hx (by omega) E w a hS)

/-- A loop told by its shape. -/
theorem summN_ok {P : Program} {tab : Tab} {fs : FS} {call : ACall} (hT : TabOK P tab) (hFS : FSOK P fs) (hC : CallOK P call) (hD : ∀ C, DrawOK P tab fs call C) {L : Loops} {fuel : Nat} {c : Code} (hL : LoopsOK P L c)
    {X : Type} {shape : X → St} {sx : AExit → X → St} {nx : St → X} {Pre : X → Prop} {D : X → LEnds X} (Inv : X → X → Prop) (meas : X → X → Nat) (h0 : ∀ x, Pre x → wfS (shape x) → Inv x x)
    (hb : ∀ x y, Pre x → Inv x y → wfS (shape y) → Hd (awp tab fs call L fuel c (bodyN shape sx nx (Inv x) (meas x) (meas x y) (D x)) (shape y))) : SummOK P c (summN shape sx nx Pre D) := by
  intro Q σ hs C E w a hS
  have hs := leS_sound hs
  obtain ⟨E', hS'⟩ := hs.1 hS
  exact loop_ruleN hT hFS hC hD hL shape sx nx (Inv (nx σ)) (meas (nx σ)) (exitsQ_spec hs.2.2.1) hs.2.2.2 (fun y hy hw => (hb _ y hs.2.1 hy hw).h) (h0 _ hs.2.1 hS'.wf) hS'

theorem firsts_mem {k : Nat} : ∀ {l : List Code} {d : Code}, d ∈ l → firstRegion d = some k → k ∈ firsts l
  | c :: l, d, hd, hk => by
    simp only [firsts]
    cases hd with
    | head => rw [hk]; simp
    | tail _ hd =>
      have := firsts_mem (l := l) hd hk
      split
      · exact List.mem_cons_of_mem _ this
      · exact this
theorem findLoop_mem {k : Nat} : ∀ {l : List Code} {d : Code}, nodupN (firsts l) = true → d ∈ l → firstRegion d = some k → findLoop l k = d
  | c :: l, d, hn, hd, hk => by
    simp only [firsts] at hn
    simp only [findLoop]
    cases hd with
    | head => rw [hk]; simp
    | tail _ hd =>
      have hm := firsts_mem hd hk
      cases hc : firstRegion c with
      | none => rw [hc] at hn; exact findLoop_mem hn hd hk
      | some j =>
        rw [hc] at hn
        simp only [nodupN] at hn
        split at hn
        · cases hn
        · rename_i hj
          have : j ≠ k := fun e => memb_false hj (by rw [e]; exact hm)
          have hb : Nat.beq j k = false := by
            cases hb : Nat.beq j k with
            | true => exact absurd (beq_true hb) this
            | false => rfl
          simp only [hb]
          exact findLoop_mem hn hd hk
theorem llook_mem : ∀ {L : Loops} {k : Nat} {S : Summ}, llook L k = some S → (k, S) ∈ L
  | [], k, S, h => by simp [llook] at h
  | (j, T) :: L, k, S, h => by
    simp only [llook] at h
    split at h
    · rename_i hb; rw [beq_true hb] at *; cases h; simp
    · exact List.mem_cons_of_mem _ (llook_mem h)
/-- A function whose loops are told. -/
theorem fnOK_loops {P : Program} {f : FuncId} {fn : Func} {L : Loops} (func : P.funcs[f]? = some fn) (step : ∀ vs w, (callFunc f vs).run P w = .ok (.enter f vs) w)
    (hn : nodupN (firsts (loopsOf (bodyOf fn))) = true) (h : ∀ k S, (k, S) ∈ L → SummOK P (loopAt fn k) S) : FnOK P f fn L := by
  refine ⟨func, step, fun c hc d hd k S hk hl => ?_⟩
  have hb : bodyOf fn = c := by simp [bodyOf, hc]
  have := findLoop_mem (k := k) hn (by rw [hb]; exact hd) hk
  have hx := h k S (llook_mem hl)
  unfold loopAt at hx
  rwa [this] at hx

/-! ### numbers -/

theorem wrap64 {a : Int} (h1 : -9223372036854775808 ≤ a) (h2 : a ≤ 9223372036854775807) : IntKind.wrap .i64 a = a := by
  have h64 : (2 : Int) ^ IntKind.bits .i64 = 18446744073709551616 := by decide
  have h63 : (2 : Int) ^ (IntKind.bits .i64 - 1) = 9223372036854775808 := by decide
  simp only [IntKind.wrap, h64, h63, show IntKind.signed .i64 = true from rfl, Bool.true_and]
  split <;> rename_i h <;> simp at h <;> omega
theorem has64 {a : Int} : IntKind.has .i64 a ↔ -9223372036854775808 ≤ a ∧ a ≤ 9223372036854775807 := by
  have h1 : IntKind.min .i64 = -9223372036854775808 := by decide
  have h2 : IntKind.max .i64 = 9223372036854775807 := by decide
  simp [IntKind.has, h1, h2]
theorem addW64 {a b : Int} (h1 : -9223372036854775808 ≤ a + b) (h2 : a + b ≤ 9223372036854775807) : addW .i64 a b = a + b := wrap64 h1 h2
theorem subW64 {a b : Int} (h1 : -9223372036854775808 ≤ a - b) (h2 : a - b ≤ 9223372036854775807) : subW .i64 a b = a - b := wrap64 h1 h2
theorem mulW64 {a b : Int} (h1 : -9223372036854775808 ≤ a * b) (h2 : a * b ≤ 9223372036854775807) : mulW .i64 a b = a * b := wrap64 h1 h2
theorem ifB_and {b : Bool} {X Y : Prop} : ifB b X Y ↔ (b = true → X) ∧ (b = false → Y) := by cases b <;> simp [ifB]
theorem ltB_t {a b : Int} : ltB a b = true ↔ a < b := by simp [ltB]
theorem ltB_f {a b : Int} : ltB a b = false ↔ b ≤ a := by simp [ltB]
theorem leB_t {a b : Int} : leB a b = true ↔ a ≤ b := by simp [leB]
theorem leB_f {a b : Int} : leB a b = false ↔ b < a := by simp [leB]
theorem eqB_t {a b : Int} : eqB a b = true ↔ a = b := by simp [eqB]
theorem eqB_f {a b : Int} : eqB a b = false ↔ a ≠ b := by simp [eqB]
theorem notB_t {a : Bool} : notB a = true ↔ a = false := by cases a <;> simp [notB]
theorem notB_f {a : Bool} : notB a = false ↔ a = true := by cases a <;> simp [notB]
theorem ret_bool {a b : Bool} : (AOut.ret (.bool a) = .ret (.bool b)) ↔ a = b := by simp
theorem view_eq {src : List Nat} {t : Ty} {a b : List (den t)} : (AV.view src t a = AV.view src t b) ↔ a = b := by simp


/-! ### words in plain -/
theorem need_def {p X : Prop} : need p X = (p ∧ X) := rfl
theorem ifB_def {b : Bool} {X Y : Prop} : ifB b X Y = ((b = true → X) ∧ (b = false → Y)) := by cases b <;> simp [ifB]
theorem impB_def {b : Bool} {p : Prop} : impB b p = (b = true → p) := by cases b <;> simp [impB]
theorem selB_f {c a : Bool} : selB c a false = (c && a) := by cases c <;> rfl
theorem selB_t {c a : Bool} : selB c true a = (c || a) := by cases c <;> rfl
theorem selB_def {c a b : Bool} : selB c a b = if c = true then a else b := by cases c <;> rfl
theorem selI_def {c : Bool} {a b : Int} : selI c a b = if c = true then a else b := by cases c <;> rfl
theorem selX_def {α : Type} {c : Bool} {a b : α} : selX c a b = if c = true then a else b := by cases c <;> rfl
theorem notB_def {a : Bool} : notB a = !a := rfl
theorem andB_def {a b : Bool} : andB a b = (a && b) := rfl
theorem orB_def {a b : Bool} : orB a b = (a || b) := rfl
theorem beqB_def {a b : Bool} : beqB a b = (a == b) := rfl
theorem ltB_def {a b : Int} : ltB a b = decide (a < b) := rfl
theorem leB_def {a b : Int} : leB a b = decide (a ≤ b) := rfl
theorem eqB_def {a b : Int} : eqB a b = decide (a = b) := rfl
theorem seqB_def {a b : List UInt8} : seqB a b = decide (a = b) := by unfold seqB; by_cases h : a = b <;> simp [h]
theorem eqI_def {a b : Int} {K : Prop} : eqI a b K = (a = b ∧ K) := rfl
theorem eqL_def {a b : Bool} {K : Prop} : eqL a b K = (a = b ∧ K) := rfl
theorem eqS_def {a b : List UInt8} {K : Prop} : eqS a b K = (a = b ∧ K) := rfl
theorem eqD_def {α : Type} {a b : List α} {K : Prop} : eqD a b K = (a = b ∧ K) := rfl
theorem eqT_def {a b : Bool} : eqT a b = (a = b) := rfl
theorem imp_def {p X : Prop} : imp p X = (p → X) := rfl
theorem inI_def {i n : Int} : inI i n = (0 ≤ i ∧ i < n) := rfl
theorem nzI_def {b : Int} : nzI b = (b ≠ 0) := rfl
theorem geZ_def {b : Int} : geZ b = (0 ≤ b) := rfl
theorem fitS_def {a : List UInt8} : fitS a = (a.length ≤ LIM) := rfl
theorem ret_int {k k' : IntKind} {a b : Int} : (AOut.ret (.int k a) = .ret (.int k' b)) ↔ k = k' ∧ a = b := by simp

end Go.Proofs.Ytkdemkkepepbdaa.Sx
