/- The framework: the quiet operations do what the evaluator says. -/
import Derived.Test.YtkdemkkepepbdaaSx3
import Derived.OpenShut
import Derived.DataShut
namespace Go.Proofs.Ytkdemkkepepbdaa.Sx
set_option linter.unusedSectionVars false
set_option linter.unusedVariables false
set_option linter.unusedSimpArgs false
open Go.RowKit

theorem has_wrap (k : IntKind) (n : Int) : k.has (k.wrap n) := (Lit.wf_int_iff k _).1 (Go.wf_wrap k n)

theorem hasB_iff {k : IntKind} {n : Int} (h : IntKind.hasB k n = true) : k.has n := by
  simpa [IntKind.hasB, IntKind.has] using h

mutual
theorem rel_ofV (E : Env) (w : World) : ∀ v : Value, Rel E w (ofV v) v
  | .bool b => by simp [ofV, Rel]
  | .int k n => by
    simp only [ofV]
    cases h : IntKind.hasB k n with
    | true => exact ⟨rfl, hasB_iff h⟩
    | false => simp [Rel]
  | .string s => by
    simp only [ofV]
    cases h : Nat.ble (ofBytes s).length LIM with
    | true => exact ⟨by simp [ofBytes], ble_true h⟩
    | false => simp [Rel]
  | .pointer none => by simp [ofV, Rel]
  | .pointer (some a) => by simp [ofV, Rel]
  | .slice a 0 0 => by
    simp only [ofV, Rel]
    exact ⟨a, rfl, by cases a <;> simp⟩
  | .slice a 0 (n + 1) => by simp [ofV, Rel]
  | .slice a (n + 1) c => by simp [ofV, Rel]
  | .nilFunc => by simp [ofV, Rel]
  | .nilIface => by simp [ofV, Rel]
  | .agg cs => by
    simp only [ofV, Rel]
    exact ⟨cs.toList, by simp, relL_ofV E w cs.toList⟩
  | .float .. | .complex .. | .map _ | .chan _ | .func .. | .iface .. | .tuple _ => by simp [ofV, Rel]
theorem relL_ofV (E : Env) (w : World) : ∀ l : List Value, RelL E w (ofVL l) l
  | [] => rfl
  | a :: l => ⟨a, l, rfl, rel_ofV E w a, relL_ofV E w l⟩
end

section quiet
variable {P : Program} {tab : Tab} {E : Env} {w : World} (hT : TabOK P tab)
include hT

/-- A value of a type at the head of some cells, loaded. -/
theorem load_part {t : TypeId} {cells : List AV} {b off : Nat} {vs : List Value} (hc : CellsAt w b off vs) (hr : RelL E w cells vs) {K : AV → Prop}
    (h : partQ tab t cells K) : ∃ v av, (loadVar t ⟨b, off, none⟩).run P w = .ok v w ∧ Rel E w av v ∧ K av := by
  unfold partQ at h
  cases ht : tlook tab t with
  | none => rw [ht] at h; exact h.elim
  | some ti =>
    rw [ht] at h
    have he := hT t ti ht
    have hagg : ∀ n, Nat.ble n (llen cells) = true → n = ti.size → (Go.loadCells ⟨b, off, none⟩ n).run P w = .ok (vs.take n).toArray w := by
      intro n hn _
      have hlen : n ≤ vs.length := by rw [hr.length, ← llen_eq]; exact ble_true hn
      have := run_loadCells_list (P := P) w ⟨b, off, none⟩ (vs.take n) (fun j v hj => by
        rw [addr_add]
        have : vs[j]? = some v := by rw [List.getElem?_take] at hj; split at hj <;> simp_all
        exact hc j v this)
      rwa [List.length_take, Nat.min_eq_left hlen] at this
    have hs : headQ cells K → ∃ v av, vs[0]? = some v ∧ Rel E w av v ∧ K av := by
      intro hk
      cases cells with
      | nil => exact hk.elim
      | cons a l =>
        obtain ⟨v, us, rfl, h1, _⟩ := hr
        exact ⟨v, a, rfl, h1, hk⟩
    simp only at h
    have hia := he.isAgg w
    cases hk : ti.k with
    | struct fs =>
      rw [hk] at h hia
      cases hb : Nat.ble ti.size (llen cells) with
      | false => simp [hb] at h
      | true =>
        simp only [hb] at h
        refine ⟨.agg (vs.take ti.size).toArray, _, ?_, ?_, h⟩
        · simp [loadVar, hia, isAggK, he.sizeOf w, hagg ti.size hb rfl]
        · exact ⟨_, rfl, hr.take ti.size⟩
    | arr n e =>
      rw [hk] at h hia
      cases hb : Nat.ble ti.size (llen cells) with
      | false => simp [hb] at h
      | true =>
        simp only [hb] at h
        refine ⟨.agg (vs.take ti.size).toArray, _, ?_, ?_, h⟩
        · simp [loadVar, hia, isAggK, he.sizeOf w, hagg ti.size hb rfl]
        · exact ⟨_, rfl, hr.take ti.size⟩
    | _ =>
      rw [hk] at h hia
      obtain ⟨v, av, hv, hrel, hK⟩ := hs h
      have := hc 0 v hv
      simp only [Nat.add_zero] at this
      exact ⟨v, av, by simp [loadVar, hia, isAggK, this], hrel, hK⟩

/-- A part of a struct or an array. -/
theorem part_part {t : TypeId} {cells : List AV} {off : Nat} {vs : List Value} (hr : RelL E w (ldrop off cells) (vs.drop off)) {K : AV → Prop}
    (h : partQ tab t (ldrop off cells) K) : ∃ v av, (part t vs.toArray off).run P w = .ok v w ∧ Rel E w av v ∧ K av := by
  unfold partQ at h
  cases ht : tlook tab t with
  | none => rw [ht] at h; exact h.elim
  | some ti =>
    rw [ht] at h
    have he := hT t ti ht
    simp only at h
    have hia := he.isAgg w
    have hag : ∀ n, n = ti.size → Rel E w (.agg (ltake n (ldrop off cells))) (.agg (vs.toArray.extract off (off + n))) := by
      intro n _
      refine ⟨(vs.drop off).take n, ?_, hr.take n⟩
      congr 1
      apply Array.ext'
      simp [List.extract_eq_take_drop, List.drop_take]
    cases hk : ti.k with
    | struct fs =>
      rw [hk] at h hia
      cases hb : Nat.ble ti.size (llen (ldrop off cells)) with
      | false => simp [hb] at h
      | true =>
        simp only [hb] at h
        exact ⟨_, _, by simp [part, hia, isAggK, he.sizeOf w], hag ti.size rfl, h⟩
    | arr n e =>
      rw [hk] at h hia
      cases hb : Nat.ble ti.size (llen (ldrop off cells)) with
      | false => simp [hb] at h
      | true =>
        simp only [hb] at h
        exact ⟨_, _, by simp [part, hia, isAggK, he.sizeOf w], hag ti.size rfl, h⟩
    | _ =>
      rw [hk] at h hia
      cases hd : ldrop off cells with
      | nil => rw [hd] at h; exact (show False from h).elim
      | cons a l =>
        rw [hd] at h hr
        obtain ⟨v, us, hv, h1, _⟩ := hr
        have hv0 : vs[off]? = some v := by
          have : (vs.drop off)[0]? = some v := by rw [hv]; rfl
          simpa [List.getElem?_drop] using this
        exact ⟨v, a, by simp [part, hia, isAggK, hv0], h1, h⟩
end quiet

theorem ifB_iff {b : Bool} {X Y : Prop} : ifB b X Y ↔ (b = true → X) ∧ (b = false → Y) := by
  cases b <;> simp [ifB]

theorem rel_int {E : Env} {w : World} {k : IntKind} {n : Int} (h : k.has n) : Rel E w (.int k n) (.int k n) := ⟨rfl, h⟩
theorem int_has_quo {k : IntKind} {a b : Int} : k.has (k.wrap (a.tdiv b)) := has_wrap k _

theorem tmod_has {k : IntKind} {a b : Int} (ha : k.has a) (hb : k.has b) (h0 : b ≠ 0) : k.has (a.tmod b) := by
  have h1 := Int.tmod_lt_of_pos a (b := b.natAbs) (by omega)
  unfold IntKind.has at *
  have hmin : k.min ≤ 0 := by cases k <;> decide
  have hmax : 0 ≤ k.max := by cases k <;> decide
  have habs : (a.tmod b).natAbs ≤ a.natAbs := by rw [Int.natAbs_tmod]; exact Nat.mod_le _ _
  rcases Int.le_total 0 a with h | h
  · have := Int.tmod_nonneg b h
    omega
  · have : a.tmod b ≤ 0 := by
      have := Int.tmod_nonneg b (a := -a) (by omega)
      rw [Int.neg_tmod] at this
      omega
    omega

theorem int_beq (a b : Int) : (a == b) = decide (a = b) := by by_cases h : a = b <;> simp [h]

/-- The integers' operations. -/
theorem intOp_sound {P : Program} {E : Env} {w : World} {op : BinOp} {k : IntKind} {a b : Int} {x y : Operand} {T : TypeId} {K : AV → Prop} (ha : k.has a) (hb : k.has b)
    (h : intOp op k a b K) : ∃ v av, (do eqGuard op T x y (.int k a) (.int k b); binOp op T (.int k a) (.int k b) : Sem Value).run P w = .ok v w ∧ Rel E w av v ∧ K av := by
  have hg : (eqGuard op T x y (.int k a) (.int k b)).run P w = .ok () w := by
    unfold eqGuard; cases op <;> simp
  cases op <;> simp only [intOp] at h <;> try exact h.elim
  case add => exact ⟨.int k (addW k a b), .int k (addW k a b), by simp [hg, binOp, Op.intArith, addW, subW, mulW], rel_int (has_wrap k _), h⟩
  case sub => exact ⟨.int k (subW k a b), .int k (subW k a b), by simp [hg, binOp, Op.intArith, addW, subW, mulW], rel_int (has_wrap k _), h⟩
  case mul => exact ⟨.int k (mulW k a b), .int k (mulW k a b), by simp [hg, binOp, Op.intArith, addW, subW, mulW], rel_int (has_wrap k _), h⟩
  case quo => exact ⟨.int k (quoW k a b), .int k (quoW k a b), by simp [hg, binOp, Op.intDiv, quoW, remI, show b ≠ 0 from h.1], rel_int (has_wrap k _), h.2⟩
  case rem => exact ⟨.int k (remI a b), .int k (remI a b), by simp [hg, binOp, Op.intDiv, quoW, remI, show b ≠ 0 from h.1], rel_int (tmod_has ha hb h.1), h.2⟩
  case eql => exact ⟨.bool (eqB a b), .bool (eqB a b), by simp [hg, binOp, Op.intCmp, eqB, notB, ltB, leB, bne, int_beq], rfl, h⟩
  case neq => exact ⟨.bool (notB (eqB a b)), .bool (notB (eqB a b)), by simp [hg, binOp, Op.intCmp, eqB, notB, ltB, leB, bne, int_beq], rfl, h⟩
  case lss => exact ⟨.bool (ltB a b), .bool (ltB a b), by simp [hg, binOp, Op.intCmp, eqB, notB, ltB, leB, bne, int_beq], rfl, h⟩
  case leq => exact ⟨.bool (leB a b), .bool (leB a b), by simp [hg, binOp, Op.intCmp, eqB, notB, ltB, leB, bne, int_beq], rfl, h⟩
  case gtr => exact ⟨.bool (ltB b a), .bool (ltB b a), by simp [hg, binOp, Op.intCmp, eqB, notB, ltB, leB, bne, int_beq], rfl, h⟩
  case geq => exact ⟨.bool (leB b a), .bool (leB b a), by simp [hg, binOp, Op.intCmp, eqB, notB, ltB, leB, bne, int_beq], rfl, h⟩


theorem kind_ok {P : Program} {tab : Tab} (hT : TabOK P tab) {t : TypeId} {k : TK} (h : kindOf tab t = k) (hk : k ≠ .other) : ∃ d, P.underlying t = some d ∧ tkOf d = k := by
  unfold kindOf at h
  cases ht : tlook tab t with
  | none => rw [ht] at h; exact absurd h.symm hk
  | some ti =>
    rw [ht] at h
    obtain ⟨d, hd, h2⟩ := (hT t ti ht).kind
    exact ⟨d, hd, h2.trans h⟩

theorem equal_of {P : Program} {w : World} {T : TypeId} {u v : Value} {b : Bool} (h : ∀ d, (Op.equalIn (d + 1) T u v).run P w = .ok b w) : (Op.equal T u v).run P w = .ok b w := h 9999

theorem eqA_sound {P : Program} {tab : Tab} {E : Env} {w : World} (hT : TabOK P tab) {T : TypeId} {x y : AV} {u v : Value} (hx : Rel E w x u) (hy : Rel E w y v) {K : Bool → Prop}
    (h : eqA tab T x y K) : ∃ b, (Op.equal T u v).run P w = .ok b w ∧ K b ∧ (∀ op s t, (eqGuard op T s t u v).run P w = .ok () w) ∧
      binOp .eql T u v = (do pure (.bool (← Op.equal T u v))) ∧ binOp .neq T u v = (do pure (.bool (!(← Op.equal T u v)))) := by
  unfold eqA at h
  split at h <;> try exact h.elim
  all_goals
    rename_i hk
    obtain ⟨d, hd, hkd⟩ := kind_ok hT hk (by simp)
    cases d <;> simp only [tkOf, reduceCtorEq] at hkd
    simp only [Rel] at hx hy
  all_goals
    first
      | (obtain ⟨a, rfl, ha⟩ := hx; obtain ⟨b, rfl, hb⟩ := hy; cases ha trivial; cases hb trivial)
      | (subst hx; subst hy)
      | (subst hx; obtain ⟨b, hb, rfl⟩ := hy)
      | (obtain ⟨b, hb, rfl⟩ := hx; subst hy)
      | (subst hx; obtain ⟨b, off, vs, rfl, _⟩ := hy)
      | (obtain ⟨b, off, vs, rfl, _⟩ := hx; subst hy)
      | (obtain ⟨a, b, rfl, _, _⟩ := hx; subst hy)
      | (obtain ⟨a, rfl, ha⟩ := hx; obtain ⟨b, rfl, hb⟩ := hy; cases ha trivial; cases hb trivial)
      | (obtain ⟨b', hb', hv⟩ := hx; subst hv; obtain ⟨b, rfl, hb⟩ := hy; cases hb trivial)
    refine ⟨_, ?_, h, ?_, rfl, rfl⟩
    · refine equal_of (fun d => ?_)
      simp [Op.equalIn, underlying, hd, beqB]
    · intro op s t; unfold eqGuard; cases op <;> simp

theorem strOp_sound {P : Program} {E : Env} {w : World} {op : BinOp} {a b : List UInt8} {x y : Operand} {T : TypeId} {K : AV → Prop} (ha : a.length ≤ LIM) (hb : b.length ≤ LIM)
    (h : strOp op a b K) : ∃ v av, (do eqGuard op T x y (.string ⟨a.toArray⟩) (.string ⟨b.toArray⟩); binOp op T (.string ⟨a.toArray⟩) (.string ⟨b.toArray⟩) : Sem Value).run P w = .ok v w ∧ Rel E w av v ∧ K av := by
  have hg : (eqGuard op T x y (.string ⟨a.toArray⟩) (.string ⟨b.toArray⟩)).run P w = .ok () w := by
    unfold eqGuard; cases op <;> simp
  cases op <;> simp only [strOp] at h <;> try exact h.elim
  case add =>
    have hsz : ¬ (((⟨a.toArray⟩ : ByteArray).size + (⟨b.toArray⟩ : ByteArray).size : Nat) : Int) > IntKind.i64.max := by
      have h1 : (⟨a.toArray⟩ : ByteArray).size = a.length := by simp [ByteArray.size]
      have h2 : (⟨b.toArray⟩ : ByteArray).size = b.length := by simp [ByteArray.size]
      rw [h1, h2]
      have : IntKind.i64.max = 9223372036854775807 := by decide
      rw [this]; unfold LIM at *; omega
    refine ⟨.string (⟨a.toArray⟩ ++ ⟨b.toArray⟩), .str (sapp a b), ?_, ⟨?_, h.1⟩, h.2⟩
    · simp only [Sem.run_bind, hg, Result.andThen_ok, binOp, Op.stringOp, if_neg hsz, Sem.run_pure]
    · unfold sapp
      congr 1
  case eql => exact ⟨.bool (seqB a b), .bool (seqB a b), by simp only [Sem.run_bind, hg, Result.andThen_ok, binOp, Op.stringOp, Sem.run_pure, ByteArray.toList_mk, seqB], rfl, h⟩
  case neq => exact ⟨.bool (notB (seqB a b)), .bool (notB (seqB a b)), by simp only [Sem.run_bind, hg, Result.andThen_ok, binOp, Op.stringOp, Sem.run_pure, ByteArray.toList_mk, seqB, notB], rfl, h⟩
  case lss => exact ⟨.bool (sltB a b), .bool (sltB a b), by simp only [Sem.run_bind, hg, Result.andThen_ok, binOp, Op.stringOp, Sem.run_pure, ByteArray.toList_mk, sltB], rfl, h⟩
  case leq => exact ⟨.bool (orB (sltB a b) (seqB a b)), .bool (orB (sltB a b) (seqB a b)), by simp only [Sem.run_bind, hg, Result.andThen_ok, binOp, Op.stringOp, Sem.run_pure, ByteArray.toList_mk, sltB, seqB, orB], rfl, h⟩
  case gtr => exact ⟨.bool (notB (orB (sltB a b) (seqB a b))), .bool (notB (orB (sltB a b) (seqB a b))), by simp only [Sem.run_bind, hg, Result.andThen_ok, binOp, Op.stringOp, Sem.run_pure, ByteArray.toList_mk, sltB, seqB, orB, notB], rfl, h⟩
  case geq => exact ⟨.bool (notB (sltB a b)), .bool (notB (sltB a b)), by simp only [Sem.run_bind, hg, Result.andThen_ok, binOp, Op.stringOp, Sem.run_pure, ByteArray.toList_mk, sltB, notB], rfl, h⟩

theorem binA_sound {P : Program} {tab : Tab} {E : Env} {w : World} (hT : TabOK P tab) {T : TypeId} {op : BinOp} {s t : Operand} {x y : AV} {u v : Value} (hx : Rel E w x u) (hy : Rel E w y v) {K : AV → Prop}
    (h : binA tab T op x y K) : ∃ r av, (do eqGuard op T s t u v; binOp op T u v : Sem Value).run P w = .ok r w ∧ Rel E w av r ∧ K av := by
  unfold binA at h
  split at h
  · obtain ⟨rfl, h1⟩ := hx
    obtain ⟨rfl, h2⟩ := hy
    split at h
    · rename_i hk; subst hk; exact intOp_sound h1 h2 h
    · exact h.elim
  · obtain ⟨rfl, h1⟩ := hx
    obtain ⟨rfl, h2⟩ := hy
    exact strOp_sound h1 h2 h
  · split at h
    · obtain ⟨b, h1, h2, h3, h4, h5⟩ := eqA_sound hT hx hy h
      exact ⟨.bool b, .bool b, by simp [h3, h4, h1], rfl, h2⟩
    · obtain ⟨b, h1, h2, h3, h4, h5⟩ := eqA_sound hT hx hy h
      exact ⟨.bool (notB b), .bool (notB b), by simp [h3, h5, h1, notB], rfl, h2⟩
    · exact h.elim

theorem unA_sound {P : Program} {E : Env} {w : World} {op : UnOp} {x : AV} {u : Value} (hx : Rel E w x u) {K : AV → Prop} (h : unA op x K) :
    ∃ r av, (Op.unary op u).run P w = .ok r w ∧ Rel E w av r ∧ K av := by
  unfold unA at h
  split at h
  · rename_i b
    cases hx; exact ⟨.bool (!b), .bool (notB b), rfl, rfl, h⟩
  · rename_i k n
    obtain ⟨rfl, h1⟩ := hx
    exact ⟨.int k (k.wrap (0 - n)), .int k (subW k 0 n), rfl, rel_int (has_wrap _ _), h⟩
  · exact h.elim

theorem minA_sound {P : Program} {E : Env} {w : World} {x y : AV} {u v : Value} (hx : Rel E w x u) (hy : Rel E w y v) {K : AV → Prop} (h : minA x y K) :
    ∃ r av, (Builtin.min2 u v).run P w = .ok r w ∧ Rel E w av r ∧ K av := by
  unfold minA at h
  split at h
  · obtain ⟨rfl, h1⟩ := hx
    obtain ⟨rfl, h2⟩ := hy
    split at h
    · rename_i hk; subst hk
      refine ⟨_, _, rfl, ?_, h⟩
      unfold selI ltB
      split <;> rename_i hb
      · simp only [decide_eq_true_eq] at hb; rw [if_pos hb]; exact rel_int h2
      · simp only [decide_eq_false_iff_not] at hb; rw [if_neg hb]; exact rel_int h1
    · exact h.elim
  · exact h.elim

theorem maxA_sound {P : Program} {E : Env} {w : World} {x y : AV} {u v : Value} (hx : Rel E w x u) (hy : Rel E w y v) {K : AV → Prop} (h : maxA x y K) :
    ∃ r av, (Builtin.max2 u v).run P w = .ok r w ∧ Rel E w av r ∧ K av := by
  unfold maxA at h
  split at h
  · obtain ⟨rfl, h1⟩ := hx
    obtain ⟨rfl, h2⟩ := hy
    split at h
    · rename_i hk; subst hk
      refine ⟨_, _, rfl, ?_, h⟩
      unfold selI ltB
      split <;> rename_i hb
      · simp only [decide_eq_true_eq] at hb
        first | (rw [if_pos hb]; exact rel_int h2) | (rw [if_pos (by omega)]; exact rel_int h2) | (rw [if_neg (by omega)]; exact rel_int h2)
      · simp only [decide_eq_false_iff_not] at hb
        first | (rw [if_neg hb]; exact rel_int h1) | (rw [if_neg (by omega)]; exact rel_int h1) | (rw [if_pos (by omega)]; exact rel_int h1)
    · exact h.elim
  · exact h.elim


theorem nth_get {t : Ty} {xs : List (den t)} {i : Int} (h : inI i (lenI xs)) : xs[i.toNat]? = some (nth t xs i) := by
  unfold inI lenI at h
  have hl : i.toNat < xs.length := by omega
  simp [nth, List.getD, List.getElem?_eq_getElem hl]

theorem enc_ne {src : List Nat} : ∀ (t : Ty) (x : den t), enc src t x ≠ []
  | .int _, x => by simp [enc]
  | .bool, x => by simp [enc]
  | .str, x => by simp [enc]
  | .list _, x => by simp [enc]
  | .prod a b, x => by
    have := enc_ne (src := src) a x.1
    simp only [enc, app_eq, ne_eq, List.append_eq_nil_iff]
    intro h; exact this h.1

theorem rel_enc {E : Env} {w : World} {src : List Nat} : ∀ {t : Ty} {x : den t} {vs : List Value}, DRep (E.ok src) w t x vs → RelL E w (enc src t x) vs
  | .int k, x, vs, h => by obtain ⟨rfl, hk⟩ := h; exact ⟨_, _, rfl, ⟨rfl, hk⟩, rfl⟩
  | .bool, x, vs, h => by cases h; exact ⟨_, _, rfl, rfl, rfl⟩
  | .str, x, vs, h => by obtain ⟨rfl, hk⟩ := h; exact ⟨_, _, rfl, ⟨rfl, hk⟩, rfl⟩
  | .list t, xs, vs, h => by
    have h0 := h
    obtain ⟨a, cap, rfl, _⟩ := h0
    exact ⟨_, _, rfl, h, rfl⟩
  | .prod a b, x, vs, h => by
    obtain ⟨v1, v2, rfl, h1, h2⟩ := h
    simp only [enc]
    exact (rel_enc h1).app (rel_enc h2)

theorem DRepL.length {S : Nat → Prop} {w : World} {t : Ty} : ∀ {xs : List (den t)} {vs : List Value}, DRepL S w t xs vs → vs.length = xs.length * nc t
  | [], vs, h => by simp only [DRepL] at h; subst h; simp
  | x :: xs, vs, h => by
    obtain ⟨v, us, rfl, h1, h2⟩ := h
    simp [h1.length, h2.length, Nat.add_mul, Nat.add_comm]

theorem DRepL.get {S : Nat → Prop} {w : World} {t : Ty} : ∀ {xs : List (den t)} {vs : List Value}, DRepL S w t xs vs → ∀ k x, xs[k]? = some x →
    DRep S w t x ((vs.drop (k * nc t)).take (nc t))
  | [], vs, h, k, x, hk => by simp at hk
  | y :: xs, vs, h, k, x, hk => by
    obtain ⟨v, us, rfl, h1, h2⟩ := h
    cases k with
    | zero =>
      simp at hk; subst hk
      have : (v ++ us).take (nc t) = v := by rw [← h1.length]; exact List.take_left
      simpa [this] using h1
    | succ k =>
      have h3 := h2.get k x (by simpa using hk)
      have : (v ++ us).drop ((k + 1) * nc t) = us.drop (k * nc t) := by
        rw [Nat.add_mul, Nat.one_mul, ← h1.length, Nat.add_comm, ← List.drop_drop]
        simp
      rwa [this]

/-- What a row of one's own holds. -/
theorem row_cells {E : Env} {w : World} {i : Nat} {e : TypeId} {t : Ty} {xs : List (den t)} {src : List Nat} (h : SatB E w i (.row e t xs src)) {b : Nat} (hb : E.bl i = some b)
    {k : Nat} {x : den t} (hk : xs[k]? = some x) : ∃ cs : List Value, CellsAt w b (k * nc t) cs ∧ RelL E w (enc src t x) cs := by
  obtain ⟨hl, cells, hown, hbl, hd⟩ := h
  refine ⟨(cells.drop (k * nc t)).take (nc t), ?_, rel_enc (hd.get k x hk)⟩
  intro j v hj
  have hj' : cells[k * nc t + j]? = some v := by
    rw [List.getElem?_take] at hj
    split at hj
    · simpa [List.getElem?_drop] using hj
    · cases hj
  have := hown.cells (g := b) (by rw [← hbl, hb]) _ v hj'
  simpa [addr_add] using this

theorem own_len {E : Env} {w : World} {i : Nat} {e : TypeId} {t : Ty} {xs : List (den t)} {src : List Nat} (h : SatB E w i (.row e t xs src)) :
    ∃ a cap, E.sl i = .slice a xs.length cap ∧ (xs = [] ∨ ∃ b, E.bl i = some b ∧ a = some ⟨b, 0, none⟩) := by
  obtain ⟨hl, cells, hown, hbl, hd⟩ := h
  rcases hown.2 with ⟨hv, hn⟩ | ⟨g, cap, cur, hv, _⟩
  · exact ⟨none, 0, by rw [hv, hn], .inl (List.eq_nil_of_length_eq_zero hn)⟩
  · refine ⟨_, cap, hv, .inr ⟨g, ?_, rfl⟩⟩
    rw [hbl, hv]; rfl

section quiet2
variable {P : Program} {tab : Tab} {B : Base} {E : Env} {m : List Blk} {w : World} (hT : TabOK P tab) (hS : SatM B E m w)
include hT hS

theorem lenA_sound {t ty : TypeId} {x : AV} {v : Value} (hx : Rel E w x v) {K : AV → Prop} (h : lenA tab t x m K) :
    ∃ r av, (Builtin.len_ #[t] ty #[v]).run P w = .ok r w ∧ Rel E w av r ∧ K av := by
  have hb : ∀ n : Nat, n ≤ LIM → IntKind.has .i64 (n : Int) := by
    intro n hn
    unfold LIM at hn
    have h1 : IntKind.i64.min = -9223372036854775808 := by decide
    have h2 : IntKind.i64.max = 9223372036854775807 := by decide
    unfold IntKind.has; rw [h1, h2]; omega
  unfold lenA at h
  split at h
  case h_1 hk =>
    obtain ⟨d, hd, hkd⟩ := kind_ok hT hk (by simp)
    cases d <;> simp only [tkOf, reduceCtorEq] at hkd
    obtain ⟨a, cap, hv, hl, _⟩ := hx
    simp only [List.cons.injEq, and_true] at hv
    subst hv
    exact ⟨_, _, by simp [Builtin.len_, underlying, hd, goInt], rel_int (hb _ hl.1), h⟩
  case h_2 hk =>
    obtain ⟨d, hd, hkd⟩ := kind_ok hT hk (by simp)
    cases d <;> simp only [tkOf, reduceCtorEq] at hkd
    obtain ⟨a, rfl, _⟩ := hx
    exact ⟨_, _, by simp [Builtin.len_, underlying, hd, goInt], rel_int (hb 0 (by simp [LIM])), h⟩
  case h_3 hk =>
    obtain ⟨d, hd, hkd⟩ := kind_ok hT hk (by simp)
    cases d <;> simp only [tkOf, reduceCtorEq] at hkd
    obtain ⟨rfl, hl⟩ := hx
    exact ⟨_, _, by simp [Builtin.len_, underlying, hd, goInt]; rfl, rel_int (hb _ hl), h⟩
  case h_4 hk =>
    obtain ⟨d, hd, hkd⟩ := kind_ok hT hk (by simp)
    cases d <;> simp only [tkOf, reduceCtorEq] at hkd
    split at h
    · rename_i hn
      obtain ⟨b, _, rfl⟩ := hx
      exact ⟨_, _, by simp [Builtin.len_, underlying, hd, goInt], rel_int (hb _ (ble_true hn)), h⟩
    · exact h.elim
  case h_5 hk =>
    obtain ⟨d, hd, hkd⟩ := kind_ok hT hk (by simp)
    cases d <;> simp only [tkOf, reduceCtorEq] at hkd
    split at h
    · rename_i hm
      have hs := row_sat hS hm
      obtain ⟨a, cap, hv, _⟩ := own_len hs
      obtain ⟨rfl, _⟩ := hx
      rw [hv]
      exact ⟨_, _, by simp [Builtin.len_, underlying, hd, goInt], rel_int (hb _ hs.1), h⟩
    · exact h.elim
  case h_6 n hk =>
    obtain ⟨d, hd, hkd⟩ := kind_ok hT hk (by simp)
    cases d <;> simp only [tkOf, reduceCtorEq] at hkd
    split at h
    · rename_i hm
      have hs := row_sat hS hm
      obtain ⟨a, cap, hv, _⟩ := own_len hs
      obtain ⟨a', l, c, he, rfl, h0, hle⟩ := hx
      rw [hv] at he
      cases he
      have hll := hs.1
      refine ⟨.int .i64 n, .int .i64 n, ?_, rel_int ?_, h⟩
      · have : ((n.toNat : Nat) : Int) = n := by omega
        simp [Builtin.len_, underlying, hd, goInt, this]
      · have := hb n.toNat (by omega)
        have e : ((n.toNat : Nat) : Int) = n := by omega
        rwa [e] at this
    · exact h.elim
  case h_7 => exact h.elim

end quiet2

end Go.Proofs.Ytkdemkkepepbdaa.Sx
