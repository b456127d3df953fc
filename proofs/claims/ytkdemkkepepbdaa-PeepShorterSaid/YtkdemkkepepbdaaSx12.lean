/- What is told of functions of data: their arguments and answers with nil slices seen as lists with nothing in them. -/
import Derived.Test.YtkdemkkepepbdaaSx11
namespace Go.Proofs.Ytkdemkkepepbdaa.Sx
set_option linter.unusedSectionVars false
set_option linter.unusedVariables false
set_option linter.unusedSimpArgs false
open Go.RowKit

theorem nrm_nil {E : Env} {w : World} {b : Bool} {t : Ty} {v : Value} (h : Rel E w (.nsl b) v) : Rel E w (.view [] t []) v := by
  obtain ⟨a, rfl, _⟩ := h
  exact ⟨a, 0, rfl, ⟨Nat.zero_le _, Nat.le_refl _⟩, .inl rfl⟩
mutual
theorem nrm_rel {E : Env} {w : World} : ∀ {s : Sh} {a : AV} {v : Value}, Rel E w a v → Rel E w (nrm s a) v
  | .any, a, v, h => by cases a <;> exact h
  | .sl t, a, v, h => by
    cases a with
    | nsl b => exact nrm_nil h
    | _ => exact h
  | .ag s, a, v, h => by
    cases a with
    | agg l =>
      simp only [nrm, Rel] at h ⊢
      obtain ⟨vs, rfl, h⟩ := h
      exact ⟨vs, rfl, nrmL_rel h⟩
    | tup l =>
      simp only [nrm, Rel] at h ⊢
      obtain ⟨vs, rfl, h⟩ := h
      exact ⟨vs, rfl, nrmL_rel h⟩
    | vptr src l =>
      simp only [nrm, Rel] at h ⊢
      obtain ⟨b, off, vs, rfl, hok, hc, hr, hne⟩ := h
      refine ⟨b, off, vs, rfl, hok, hc, nrmL_rel hr, ?_⟩
      cases l with
      | nil => exact absurd rfl hne
      | cons a l => cases s <;> simp [nrmL]
    | _ => exact h
theorem nrmL_rel {E : Env} {w : World} : ∀ {s : List Sh} {l : List AV} {vs : List Value}, RelL E w l vs → RelL E w (nrmL s l) vs
  | [], l, vs, h => by cases l <;> exact h
  | s :: ss, [], vs, h => h
  | s :: ss, a :: l, vs, h => by
    simp only [nrmL, RelL] at h ⊢
    obtain ⟨v, us, rfl, h1, h⟩ := h
    exact ⟨v, us, rfl, nrm_rel h1, nrmL_rel h⟩
end

mutual
theorem back_iso {src : List Nat} : ∀ a : AV, back src (iso a) = back src a
  | .view _ t xs => rfl
  | .vptr _ l => by simp only [iso, back, backL_iso l]
  | .fn f a b => by simp only [iso, back, backL_iso a, backL_iso b]
  | .agg l => by simp only [iso, back, backL_iso l]
  | .tup l => by simp only [iso, back, backL_iso l]
  | .ptr i off | .vsl i a b c | .own i | .sub i n | .rptr i t a b | .iface t v | .bad | .und | .int _ _ | .bool _ | .str _ | .nilp | .nsl _ | .nilfn | .nilif => by simp [iso, back]
theorem backL_iso {src : List Nat} : ∀ l : List AV, backL src (isoL l) = backL src l
  | [] => rfl
  | a :: l => by simp only [isoL, backL, back_iso a, backL_iso l]
end

theorem iso_callsN {P : Program} {call : ACall} (hC : CallOK P call) {f : FuncId} {args : List AV} {m : List Blk} {K : AK} {v : AV} (rs : Sh)
    (h : wfAL (isoL args) → call f (isoL args) [] fun out m' _ _ => resN rs m' out = .ret v) (hK : K (.ret (back (srcsL args) v)) m [] []) :
    ∀ B E w vs, SatM B E m w → RelL E w args vs → Calls P f vs.toArray w fun e w' => ∃ out m' k1 k2 E', K out m' k1 k2 ∧ SatM B E' m' w' ∧ EKeep E w E' w' k1 k2 ∧ OutR E' w' out e := by
  intro B E w vs hM hA
  have hM1 : SatM ⟨w, fun _ => False, E.ok (srcsL args)⟩ (E.iso (srcsL args)) [] w := by
    refine ⟨fun i bk h => by simp at h, fun _ _ => rfl, fun i j b h => by simp [Env.iso] at h, fun i b h => by simp [Env.iso] at h, rfl, rfl, rfl, Nat.le_refl _, fun _ _ _ => rfl, fun b => ?_, fun b h => h.elim⟩
    simp only [Env.iso]
    refine ⟨.inl, fun h => h.elim id fun h => ⟨(hM.T b).2 (.inr (Nat.le_trans hM.size h)), fun i hi => ?_⟩⟩
    have h1 : w.heap.size ≤ b := h
    have := (hM.old i b hi).2
    omega
  refine (hC.calls (h (RelL.iso (fun _ h => h) hA).wf) _ _ w vs hM1 (RelL.iso (fun _ h => h) hA)).mono fun e w' he => ?_
  obtain ⟨out, m', k1, k2, E', hr, hS, _, ho⟩ := he
  have hsame : ∀ b, b < w.heap.size → w'.heap[b]? = w.heap[b]? := fun b hb => hS.frame b hb (fun x => x)
  have hk : EKeep E w E w' [] [] := by
    refine ⟨fun _ _ _ h => h, fun _ _ => rfl, fun src _ b hok hex => ⟨hok, fun o v hv => ?_⟩⟩
    have hlt := World.block_lt_of_cell? w _ hv
    rw [← hv]
    exact World.cell?_of_block (w := w) (w' := w') (a := ⟨b, o, none⟩) (hsame b hlt)
  have hT : ∀ b, E'.T b → (∃ o v, w'.cell? ⟨b, o, none⟩ = some v) → E.ok (srcsL args) b := by
    intro b hb hex
    rcases (hS.T b).1 hb with h | h
    · exact h
    · refine ⟨(hM.T b).2 (.inr (Nat.le_trans hM.size h)), fun i hi => ?_⟩
      have h1 : w.heap.size ≤ b := h
      have := (hM.old i b hi).2
      omega
  refine ⟨_, m, [], [], E, hK, ?_, hk, ?_⟩
  · refine ⟨fun i bk hb => ?_, hM.out, hM.inj, fun i b hb => ⟨(hM.old i b hb).1, Nat.lt_of_lt_of_le (hM.old i b hb).2 hS.size⟩, hS.os.trans hM.os, hS.tape.trans hM.tape, hS.output.trans hM.output, Nat.le_trans hM.size hS.size,
      fun b hb hF => (hsame b (Nat.lt_of_lt_of_le hb hM.size)).trans (hM.frame b hb hF), hM.T, hM.FT⟩
    have := (hM.blk i bk hb).keep hk (fun b hb => hsame b (hM.old i b hb).2) rfl rfl
    rwa [killB_nil] at this
  · cases out with
    | ret av =>
      obtain ⟨u, rfl, hv⟩ := ho
      have hr : AOut.ret (iso (nrm rs (freeze m' 8 av))) = .ret v := hr
      cases hr
      refine ⟨u, rfl, ?_⟩
      rw [back_iso]
      exact Rel.back hT (nrm_rel (freeze_rel hS 8 hv))
    | panic av => exact absurd hr (by simp [resN, freezeO, nrmO, isoO])

/-- What is told of the answer of a function of data. -/
theorem pureN_ok {P : Program} {call : ACall} (hC : CallOK P call) {f : FuncId} {shs : List Sh} {F : List AV → OV} (rs : Sh) (step : ∀ vs w, (callFunc f vs).run P w = .ok (.enter f vs) w)
    (h : ∀ args ps v, F args = some (ps, v) → AllP ps → wfAL args → Hd (call f args [] (fun out m' _ _ => resN rs m' out = .ret v))) : SpecOK P f (fspecS (pureN shs F)) := by
  refine ⟨step, fun {args m K} hS => ?_⟩
  unfold fspecS pureN at hS
  intro B E w vs hM hA
  have hA' : RelL E w (nrmL shs (mapAV (freeze m 8) args)) vs := nrmL_rel (mapAV_rel (fun h => freeze_rel hM 8 h) hA)
  cases hF : F (isoL (nrmL shs (mapAV (freeze m 8) args))) with
  | none => rw [hF] at hS; exact (show False from hS).elim
  | some r =>
    obtain ⟨ps, v⟩ := r
    rw [hF] at hS
    have hS := needL_iff.1 hS
    exact iso_callsN (args := nrmL shs (mapAV (freeze m 8) args)) (m := m) hC rs (fun hw => (h _ ps v hF hS.1 hw).h) hS.2 B E w vs hM hA'

theorem orF_ok {P : Program} {f : FuncId} {F G : FSpec} (hF : SpecOK P f (fspecS F)) (hG : SpecOK P f (fspecS G)) : SpecOK P f (fspecS (orF F G)) := by
  refine ⟨hF.step, fun {args m K} hS => ?_⟩
  unfold fspecS orF at hS
  cases h : F args m with
  | some r =>
    rw [h] at hS
    refine hF.calls (show fspecS F args m K from ?_)
    unfold fspecS
    rw [h]
    exact hS
  | none =>
    rw [h] at hS
    exact hG.calls hS
theorem recN_ok {P : Program} {f : FuncId} {shs : List Sh} {F : Nat → List AV → OV} {G : List AV → OV} (hF : ∀ N, SpecOK P f (fspecS (pureN shs (F N))))
    (hG : ∀ args ps v, G args = some (ps, v) → ∃ N qs, F N args = some (qs, v) ∧ (AllP ps → AllP qs)) : SpecOK P f (fspecS (pureN shs G)) := by
  refine ⟨(hF 0).step, fun {args m K} hS => ?_⟩
  unfold fspecS pureN at hS
  cases h : G (isoL (nrmL shs (mapAV (freeze m 8) args))) with
  | none => rw [h] at hS; exact (show False from hS).elim
  | some r =>
    obtain ⟨ps, v⟩ := r
    rw [h] at hS
    have hS := needL_iff.1 hS
    obtain ⟨N, qs, h1, h2⟩ := hG _ _ _ h
    refine (hF N).calls (show fspecS (pureN shs (F N)) args m K from ?_)
    unfold fspecS pureN
    rw [h1]
    exact needL_iff.2 ⟨h2 hS.1, hS.2⟩
theorem frzA_rel {B : Base} {E : Env} {m : List Blk} {w : World} (hS : SatM B E m w) : ∀ {shs : List Sh} {l : List AV} {vs : List Value}, RelL E w l vs → RelL E w (frzA m shs l) vs
  | [], l, vs, h => by cases l <;> exact h
  | s :: ss, [], vs, h => by cases s <;> exact h
  | s :: ss, a :: l, vs, h => by
    obtain ⟨v, us, rfl, h1, h⟩ := h
    have ih := frzA_rel hS (shs := ss) h
    cases s with
    | sl t => exact ⟨v, us, rfl, nrm_rel (freeze_rel hS 2 h1), ih⟩
    | any => exact ⟨v, us, rfl, h1, ih⟩
    | ag k => exact ⟨v, us, rfl, h1, ih⟩
theorem specV_ok {P : Program} {f : FuncId} {shs : List Sh} {S : List AV → List Blk → AK → Prop} (h : SpecOK P f S) : SpecOK P f (specV shs S) :=
  ⟨h.step, fun {args m K} hS B E w vs hM hA => h.calls hS B E w vs hM (frzA_rel hM hA)⟩

theorem frzT_rel {B : Base} {E : Env} {m : List Blk} {w : World} (hS : SatM B E m w) : ∀ {ts : List Nat} {l : List AV} {vs : List Value}, RelL E w l vs → RelL E w (frzT m ts l) vs
  | [], l, vs, h => h
  | t :: ts, l, vs, h => by
    refine frzT_rel hS (ts := ts) ?_
    have h1 := h.set t (freeze_rel hS 2 (h.get t))
    have e : vs.set t (vs.getD t undef) = vs := by
      by_cases hlt : t < vs.length
      · apply List.ext_getElem?
        intro i
        rw [List.getElem?_set]
        split
        · rename_i hi; subst hi
          simp [List.getD, List.getElem?_eq_getElem hlt, hlt]
        · rfl
      · exact List.set_eq_of_length_le (by omega)
    rwa [e] at h1
theorem preV_ok {P : Program} {c : Code} {mask : List Nat} {S : Summ} (h : SummOK P c S) : SummOK P c (preV mask S) := by
  intro Q σ hs C E w a hS
  exact h Q _ hs C E w a ⟨hS.mem, frzT_rel hS.mem hS.tm, hS.dfr, hS.keep⟩

theorem loopsOK_at {P : Program} {L : Loops} {c : Code} (hn : nodupN (firsts (loopsOf c)) = true) (h : ∀ k S, (k, S) ∈ L → SummOK P (findLoop (loopsOf c) k) S) : LoopsOK P L c := fun d hd k S hk hl => by
  have := findLoop_mem hn hd hk
  have hx := h k S (llook_mem hl)
  rwa [this] at hx

/-! what is known of lists and numbers that stand for values -/
theorem wfT_int {k : IntKind} {x : Int} : wfT (.int k) x = k.has x := rfl
theorem wfT_bool {x : Bool} : wfT .bool x = True := rfl
theorem wfT_str {x : List UInt8} : wfT .str x = (x.length ≤ LIM) := rfl
theorem wfT_prod {a b : Ty} {x : den a × den b} : wfT (.prod a b) x = (wfT a x.1 ∧ wfT b x.2) := rfl
theorem wfT_len {t : Ty} {xs : List (den t)} (h : wfT (.list t) xs) : lenI xs ≤ 140737488355328 := by
  have := h.1; unfold LIM at this; unfold lenI; omega
theorem wfT_nth {t : Ty} {xs : List (den t)} {i : Int} (h : wfT (.list t) xs) (h0 : 0 ≤ i) (h1 : i < lenI xs) : wfT t (nth t xs i) := by
  have h2 : inI i (lenI xs) := ⟨h0, h1⟩
  exact h.2 _ (List.mem_of_getElem? (nth_get h2))
theorem wfT_sub {t : Ty} {xs : List (den t)} {i j : Int} (h : wfT (.list t) xs) : wfT (.list t) (subL xs i j) := by
  refine ⟨?_, fun x hx => h.2 x (List.mem_of_mem_take (List.mem_of_mem_drop hx))⟩
  have := h.1
  unfold subL
  simp only [List.length_drop, List.length_take]
  omega
theorem has64r {n : Int} (h : IntKind.i64.has n) : -9223372036854775808 ≤ n ∧ n ≤ 9223372036854775807 := by
  unfold IntKind.has at h
  have e1 : IntKind.i64.min = -9223372036854775808 := by decide
  have e2 : IntKind.i64.max = 9223372036854775807 := by decide
  rw [e1, e2] at h; exact h
theorem has8r {n : Int} (h : IntKind.u8.has n) : 0 ≤ n ∧ n ≤ 255 := by
  unfold IntKind.has at h
  have e1 : IntKind.u8.min = 0 := by decide
  have e2 : IntKind.u8.max = 255 := by decide
  rw [e1, e2] at h; exact h
theorem hasU64r {n : Int} (h : IntKind.u64.has n) : 0 ≤ n ∧ n ≤ 18446744073709551615 := by
  unfold IntKind.has at h
  have e1 : IntKind.u64.min = 0 := by decide
  have e2 : IntKind.u64.max = 18446744073709551615 := by decide
  rw [e1, e2] at h; exact h

theorem wrapU64 (a : Int) : IntKind.wrap .u64 a = a % 18446744073709551616 := by
  have h64 : (2 : Int) ^ IntKind.bits .u64 = 18446744073709551616 := by decide
  simp only [IntKind.wrap, h64, show IntKind.signed .u64 = false from rfl, Bool.false_and]
  simp
theorem wrapI64 (a : Int) : IntKind.wrap .i64 a = (a + 9223372036854775808) % 18446744073709551616 - 9223372036854775808 := by
  have h64 : (2 : Int) ^ IntKind.bits .i64 = 18446744073709551616 := by decide
  have h63 : (2 : Int) ^ (IntKind.bits .i64 - 1) = 9223372036854775808 := by decide
  simp only [IntKind.wrap, h64, h63, show IntKind.signed .i64 = true from rfl, Bool.true_and]
  split
  · rename_i h; simp only [decide_eq_true_eq] at h; omega
  · rename_i h; simp only [decide_eq_true_eq] at h; omega
theorem appL_def {α : Type} {a b : List α} : appL a b = a ++ b := rfl
theorem lenI_nn {α : Type} (l : List α) : 0 ≤ lenI l := by unfold lenI; omega
theorem lenI_nil {α : Type} : lenI ([] : List α) = 0 := rfl
theorem lenI_app {α : Type} (l m : List α) : lenI (l ++ m) = lenI l + lenI m := by simp [lenI]
theorem lenI_one {α : Type} (a : α) : lenI [a] = 1 := rfl
theorem take_nth {t : Ty} {xs : List (den t)} {i : Int} (h0 : 0 ≤ i) (h : i < lenI xs) : xs.take (i + 1).toNat = xs.take i.toNat ++ [nth t xs i] := by
  unfold lenI at h
  have e : (i + 1).toNat = i.toNat + 1 := by omega
  have hl : i.toNat < xs.length := by omega
  rw [e, List.take_succ_eq_append_getElem hl]
  simp [nth, List.getD, List.getElem?_eq_getElem hl]
theorem take_all {α : Type} {xs : List α} {i : Int} (h : lenI xs ≤ i) : xs.take i.toNat = xs := by
  unfold lenI at h
  exact List.take_of_length_le (by omega)
theorem drop_nth {t : Ty} {xs : List (den t)} {i : Int} (h0 : 0 ≤ i) (h : i < lenI xs) : xs.drop i.toNat = nth t xs i :: xs.drop (i + 1).toNat := by
  unfold lenI at h
  have e : (i + 1).toNat = i.toNat + 1 := by omega
  have hl : i.toNat < xs.length := by omega
  rw [e, List.drop_eq_getElem_cons hl]
  simp [nth, List.getD, List.getElem?_eq_getElem hl]
theorem len_snoc {α : Type} {r : List α} {t : α} : lenI (r ++ [t]) = lenI r + 1 := by simp [lenI]
theorem len_cons {α : Type} {r : List α} {t : α} : lenI (t :: r) = lenI r + 1 := by simp [lenI]
theorem nth_snoc {T : Ty} {r : List (den T)} {t : den T} : nth T (r ++ [t]) (lenI r) = t := by simp [nth, lenI, List.getD]
theorem subL_snoc {α : Type} {r : List α} {t : α} : subL (r ++ [t]) 0 (lenI r) = r := by simp [subL, lenI]
theorem setI_snoc {α : Type} {r : List α} {t u : α} : setI (r ++ [t]) (lenI r) u = r ++ [u] := by simp [setI, lenI]
theorem setI_nth {t : Ty} {xs : List (den t)} {i : Int} (h0 : 0 ≤ i) (h : i < lenI xs) : setI xs i (nth t xs i) = xs := by
  unfold setI nth lenI at *
  have h1 : i.toNat < xs.length := by omega
  rw [List.getD_eq_getElem?_getD, List.getElem?_eq_getElem h1]
  exact List.set_getElem_self h1
theorem drop_byte {s : List UInt8} {i : Int} (h0 : 0 ≤ i) (h : i < lenI s) : s.drop i.toNat = s.getD i.toNat 0 :: s.drop (i + 1).toNat := by
  unfold lenI at h
  have h1 : i.toNat < s.length := by omega
  rw [List.drop_eq_getElem_cons h1, List.getD_eq_getElem?_getD, List.getElem?_eq_getElem h1, show (i + 1).toNat = i.toNat + 1 by omega]
  rfl
def idxG {α : Type} (p : α → Bool) : List α → Int → Int
  | [], _ => -1
  | x :: l, i => if p x then i else idxG p l (i + 1)
theorem idxG_any {α : Type} {p : α → Bool} : ∀ {l : List α} {i : Int}, 0 ≤ i → leB 0 (idxG p l i) = l.any p
  | [], i, _ => rfl
  | x :: l, i, h => by
    simp only [idxG, List.any_cons]
    cases hp : p x
    · simpa using idxG_any (l := l) (i := i + 1) (by omega)
    · simp [leB, h]
theorem drop_all {α : Type} {xs : List α} {i : Int} (h : lenI xs ≤ i) : xs.drop i.toNat = [] := by
  unfold lenI at h
  exact List.drop_of_length_le (by omega)
theorem nth_mem {t : Ty} {xs : List (den t)} {i : Int} (h0 : 0 ≤ i) (h : i < lenI xs) : nth t xs i ∈ xs := by
  unfold lenI at h
  have hl : i.toNat < xs.length := by omega
  simp only [nth, List.getD, List.getElem?_eq_getElem hl, Option.getD_some]
  exact List.getElem_mem hl

end Go.Proofs.Ytkdemkkepepbdaa.Sx
