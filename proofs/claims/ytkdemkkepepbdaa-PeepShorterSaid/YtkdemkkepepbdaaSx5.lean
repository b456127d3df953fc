/- The framework: the quiet operations, joined. -/
import Derived.Laws.Slices
import Derived.Laws.StructEq
import Derived.Test.YtkdemkkepepbdaaSx4
namespace Go.Proofs.Ytkdemkkepepbdaa.Sx
set_option linter.unusedSectionVars false
set_option linter.unusedVariables false
set_option linter.unusedSimpArgs false
open Go.RowKit

theorem CellsAt.drop {w : World} {b o : Nat} {cs : List Value} (hc : CellsAt w b o cs) (off : Nat) : CellsAt w b (o + off) (cs.drop off) := by
  intro j v hj
  have := hc (off + j) v (by simpa [List.getElem?_drop] using hj)
  rwa [Nat.add_assoc]

theorem rel_vptr {E : Env} {w : World} {src : List Nat} {cells : List AV} {b off : Nat} {vs : List Value} (hok : E.ok src b) (hc : CellsAt w b off vs) (hr : RelL E w cells vs) (hne : cells ≠ []) :
    Rel E w (.vptr src cells) (.pointer (some ⟨b, off, none⟩)) := ⟨b, off, vs, rfl, hok, hc, hr, hne⟩
theorem rel_ptr {E : Env} {w : World} {i off b : Nat} (hb : E.bl i = some b) : Rel E w (.ptr i off) (.pointer (some ⟨b, off, none⟩)) := ⟨b, hb, rfl⟩
theorem rel_rptr {E : Env} {w : World} {i off b : Nat} {t : Ty} {idx : Int} (hb : E.bl i = some b) : Rel E w (.rptr i t idx off) (.pointer (some ⟨b, idx.toNat * nc t + off, none⟩)) := ⟨b, hb, rfl⟩

section quiet3
variable {P : Program} {tab : Tab} {B : Base} {E : Env} {m : List Blk} {w : World} (hT : TabOK P tab) (hS : SatM B E m w)
include hT

theorem sizeT_ok {t : TypeId} {n : Nat} (h : sizeT tab t = some n) : (sizeOf t).run P w = .ok n w := by
  unfold sizeT at h
  cases ht : tlook tab t with
  | none => rw [ht] at h; cases h
  | some ti => rw [ht] at h; cases h; exact (hT t ti ht).sizeOf w

include hS

theorem indexA_sound {t : TypeId} {x ix : AV} {v iv : Value} (hx : Rel E w x v) (hi : Rel E w ix iv) {K : AV → Prop} (h : indexA tab t x ix m K) :
    ∃ r av, (Instr.indexAt t v iv).run P w = .ok r w ∧ Rel E w av r ∧ K av := by
  unfold indexA at h
  split at h
  case h_1 hk =>
    obtain ⟨d, hd, hkd⟩ := kind_ok hT hk (by simp)
    cases d <;> simp only [tkOf, reduceCtorEq, TK.slice.injEq] at hkd
    subst hkd
    split at h
    · rename_i hn
      split at h
      · rename_i hb
        have hb := beq_true hb
        subst hb
        obtain ⟨hin, hK⟩ := h
        obtain ⟨a, cap, hv, hl, hr⟩ := hx
        simp only [List.cons.injEq, and_true] at hv
        subst hv
        obtain ⟨rfl, hik⟩ := hi
        have hg := nth_get hin
        have hi' := hin
        simp only [inI, lenI] at hi'
        rcases hr with rfl | ⟨b, off, rfl, hok, hr⟩
        · simp at hg
        · obtain ⟨cs, hc, hcell, hrep⟩ := hr _ _ hg
          refine ⟨_, _, ?_, rel_vptr hok hcell (rel_enc hrep) (enc_ne _ _), hK⟩
          simp [Instr.indexAt, asIntOf, underlying, hd, hi'.1, hi'.2, sizeT_ok hT hn, addr_add]
      · exact h.elim
    · exact h.elim
  case h_2 hk =>
    obtain ⟨d, hd, hkd⟩ := kind_ok hT hk (by simp)
    cases d <;> simp only [tkOf, reduceCtorEq, TK.slice.injEq] at hkd
    subst hkd
    split at h
    · rename_i hm
      split at h
      · rename_i hn
        split at h
        · rename_i hb
          have hb := beq_true hb
          subst hb
          obtain ⟨hin, hK⟩ := h
          have hs := row_sat hS hm
          obtain ⟨a, cap, hv, hnil⟩ := own_len hs
          obtain ⟨rfl, _⟩ := hx
          obtain ⟨rfl, hik⟩ := hi
          have hg := nth_get hin
          have hi' := hin
          simp only [inI, lenI] at hi'
          rcases hnil with rfl | ⟨b, hb, rfl⟩
          · simp at hg
          · rw [hv]
            refine ⟨_, _, ?_, rel_rptr hb, hK⟩
            simp [Instr.indexAt, asIntOf, underlying, hd, hi'.1, hi'.2, sizeT_ok hT hn, addr_add]
        · exact h.elim
      · exact h.elim
    · exact h.elim
  case h_3 k0 kd0 i0 hk =>
    obtain ⟨d, hd, hkd⟩ := kind_ok hT hk (by simp)
    cases d <;> simp only [tkOf, reduceCtorEq, TK.slice.injEq] at hkd
    subst hkd
    split at h
    · rename_i hm
      split at h
      · rename_i hn
        split at h
        · rename_i hb
          have hb := beq_true hb
          subst hb
          obtain ⟨hin, hK⟩ := h
          have hs := row_sat hS hm
          obtain ⟨a, cap, hv, hnil⟩ := own_len hs
          obtain ⟨a', l, c, he, rfl, h0, hle⟩ := hx
          rw [hv] at he
          cases he
          obtain ⟨rfl, hik⟩ := hi
          have hi' := hin
          simp only [inI] at hi'
          rcases hnil with rfl | ⟨b, hb, rfl⟩
          · simp only [List.length_nil] at hle; omega
          · refine ⟨_, _, ?_, rel_rptr hb, hK⟩
            have hlt := hi'.2
            have h1 := hi'.1
            have e : i0 < ((k0.toNat : Nat) : Int) := by omega
            simp [Instr.indexAt, asIntOf, underlying, hd, h1, e, sizeT_ok hT hn, addr_add]
            exact fun h => absurd h (by omega)
        · exact h.elim
      · exact h.elim
    · exact h.elim
  case h_4 hk =>
    obtain ⟨d, hd, hkd⟩ := kind_ok hT hk (by simp)
    cases d <;> simp only [tkOf, reduceCtorEq, TK.slice.injEq] at hkd
    subst hkd
    split at h
    · rename_i hn
      obtain ⟨hin, hK⟩ := h
      obtain ⟨b, hb, rfl⟩ := hx
      obtain ⟨rfl, hik⟩ := hi
      have hi' := hin
      simp only [inI, Int.ofNat_eq_natCast] at hi'
      refine ⟨_, _, ?_, rel_ptr hb, hK⟩
      simp [Instr.indexAt, asIntOf, underlying, hd, hi'.1, hi'.2, sizeT_ok hT hn, addr_add]
    · exact h.elim
  case h_5 hk =>
    obtain ⟨d, hd, hkd⟩ := kind_ok hT hk (by simp)
    cases d <;> simp only [tkOf, reduceCtorEq, TK.arr.injEq] at hkd
    obtain ⟨rfl, rfl⟩ := hkd
    split at h
    · rename_i hn
      obtain ⟨hin, hK⟩ := h
      obtain ⟨b, hb, rfl⟩ := hx
      obtain ⟨rfl, hik⟩ := hi
      have hi' := hin
      simp only [inI, Int.ofNat_eq_natCast] at hi'
      refine ⟨_, _, ?_, rel_ptr hb, hK⟩
      simp [Instr.indexAt, Instr.sureAddr, asIntOf, underlying, hd, hi'.1, hi'.2, sizeT_ok hT hn, addr_add]
    · exact h.elim
  case h_6 => exact h.elim

theorem var_cells {i : Nat} {cells : List AV} (hm : mget m i = .var cells) {b : Nat} (hb : E.bl i = some b) :
    ∃ (vs : List Value) (T : TypeId), w.heap[b]? = some (.cells vs.toArray T (0, 0)) ∧ RelL E w cells vs := by
  obtain ⟨b', vs, T, hb', hh, hr⟩ := var_sat hS hm
  rw [hb] at hb'
  cases hb'
  exact ⟨vs, T, hh, hr⟩

theorem cellsAt_heap {b off : Nat} {vs : List Value} {T : TypeId} (hh : w.heap[b]? = some (.cells vs.toArray T (0, 0))) : CellsAt w b off (vs.drop off) := by
  intro j v hj
  rw [cell_of_heap hh]
  simpa [List.getElem?_drop] using hj

theorem loadA_sound {t : TypeId} {x : AV} {v : Value} (hx : Rel E w x v) {K : AV → Prop} (h : loadA tab t m x K) :
    ∃ r av, (Instr.loadAt t v).run P w = .ok r w ∧ Rel E w av r ∧ K av := by
  unfold loadA at h
  split at h
  · split at h
    · rename_i hm
      obtain ⟨b, hb, rfl⟩ := hx
      obtain ⟨vs, T, hh, hr⟩ := var_cells hT hS hm hb
      obtain ⟨r, av, h1, h2, h3⟩ := load_part hT (cellsAt_heap hT hS hh) (hr.drop _) h
      exact ⟨r, av, by simpa [Instr.loadAt, Instr.sureAddr] using h1, h2, h3⟩
    · exact h.elim
  · obtain ⟨b, off, vs, rfl, hok, hc, hr, _⟩ := hx
    obtain ⟨r, av, h1, h2, h3⟩ := load_part hT hc hr h
    exact ⟨r, av, by simpa [Instr.loadAt, Instr.sureAddr] using h1, h2, h3⟩
  · split at h
    · rename_i hm
      split at h
      · rename_i ht
        subst ht
        obtain ⟨hin, h⟩ := h
        have hg := nth_get hin
        have hs := row_sat hS hm
        obtain ⟨b, hb, rfl⟩ := hx
        obtain ⟨cs, hc, hr⟩ := row_cells hs hb hg
        obtain ⟨r, av, h1, h2, h3⟩ := load_part hT (hc.drop _) (hr.drop _) h
        exact ⟨r, av, by simpa [Instr.loadAt, Instr.sureAddr] using h1, h2, h3⟩
      · exact h.elim
    · exact h.elim
  · exact h.elim

end quiet3

/-! ### struct values -/

theorem fieldOf_get {fs : List Field} : ∀ {n : Nat} {t : TypeId} {o : Nat}, fieldOf (fs.map fun f => (f.type, f.offset)) n = some (t, o) → ∃ f, fs[n]? = some f ∧ f.type = t ∧ f.offset = o := by
  induction fs with
  | nil => intro n t o h; simp [fieldOf] at h
  | cons a l ih =>
    intro n t o h
    cases n with
    | zero => simp only [List.map_cons, fieldOf, Option.some.injEq, Prod.mk.injEq] at h; exact ⟨a, rfl, h.1, h.2⟩
    | succ n => simpa [fieldOf] using ih (by simpa [fieldOf] using h)

theorem run_mapM_places {P : Program} {tab : Tab} {w : World} (fs : List Field) (g : Field → Nat) (hg : ∀ f ∈ fs, (sizeOf f.type).run P w = .ok (g f) w) :
    (fs.mapM (m := Sem) fun f => do pure (f.offset, ← sizeOf f.type)).run P w = .ok (fs.map fun f => (f.offset, g f)) w := by
  induction fs with
  | nil => simp
  | cons a l ih =>
    have h1 := hg a (by simp)
    have h2 := ih (fun f hf => hg f (by simp [hf]))
    simp only [List.mapM_cons, Sem.run_bind, h1, Result.andThen_ok, Sem.run_pure, h2, List.map_cons]

theorem fieldsOK_get {tab : Tab} : ∀ {l : List (TypeId × Nat)}, fieldsOK tab l = true → ∀ x ∈ l, ∃ n, sizeT tab x.1 = some n
  | [], _, x, hx => by cases hx
  | (t, o) :: l, h, x, hx => by
    simp only [fieldsOK] at h
    cases hs : sizeT tab t with
    | none => rw [hs] at h; cases h
    | some n =>
      rw [hs] at h
      cases hx with
      | head => exact ⟨n, hs⟩
      | tail _ hx => exact fieldsOK_get h x hx

theorem fill_put (off : Nat) : ∀ (us : List Value) (k : Nat) (cells : List Value),
    ((us.zipIdx k).foldl (fun (cs : Array Value) (x : Value × Nat) => cs.setIfInBounds (off + x.2) x.1) cells.toArray) =
      ((us.zipIdx (off + k)).foldl (fun vs (x : Value × Nat) => vs.set x.2 x.1) cells).toArray
  | [], k, cells => by simp
  | u :: us, k, cells => by
    simp only [List.zipIdx_cons, List.foldl_cons]
    have : cells.toArray.setIfInBounds (off + k) u = (cells.set (off + k) u).toArray := by simp
    rw [this, fill_put off us (k + 1) (cells.set (off + k) u), Nat.add_assoc]

theorem lput_length : ∀ (cs l : List AV) (n : Nat), (lput l n cs).length = l.length
  | [], l, n => rfl
  | c :: cs, l, n => by
    have h1 : ∀ (l : List AV) (n : Nat) (a : AV), (lset l n a).length = l.length := by
      intro l
      induction l with
      | nil => intro n a; rfl
      | cons b l ih => intro n a; cases n with
        | zero => rfl
        | succ n => simp [lset, ih]
    simp only [lput]
    rw [lput_length cs, h1]

def RelP (E : Env) (w : World) : List (Nat × AV) → List (Nat × Value) → Prop
  | [], l => l = []
  | (i, a) :: l, m => ∃ v us, m = (i, v) :: us ∧ Rel E w a v ∧ RelP E w l us

theorem fill_sound {P : Program} {tab : Tab} {E : Env} {w : World} (hT : TabOK P tab) {fields : List Field} {places : Nat → Option (Nat × Nat)}
    (hp : ∀ (n : Nat) (f : Field) (sz : Nat), fields[n]? = some f → sizeT tab f.type = some sz → places n = some (f.offset, sz)) :
    ∀ {parts : List (Nat × AV)} {vparts : List (Nat × Value)} {cells : List AV} {vs : List Value} {out : List AV},
    RelP E w parts vparts → RelL E w cells vs →
    fillA tab (fields.map fun f => (f.type, f.offset)) cells parts = some out → ∃ us : List Value, Instr.fill places vs.toArray vparts = some us.toArray ∧ RelL E w out us
  | [], vparts, cells, vs, out, hf, hr, h => by
    simp only [RelP] at hf
    subst hf
    simp only [fillA, Option.some.injEq] at h
    subst h
    exact ⟨vs, rfl, hr⟩
  | (i, a) :: parts, vparts, cells, vs, out, hf, hr, h => by
    obtain ⟨v, bs, rfl, hv, hf⟩ := hf
    simp only [fillA] at h
    cases hfo : fieldOf (fields.map fun f => (f.type, f.offset)) i with
    | none => rw [hfo] at h; cases h
    | some tf =>
      obtain ⟨t, off⟩ := tf
      rw [hfo] at h
      simp only at h
      cases ht : tlook tab t with
      | none => rw [ht] at h; cases h
      | some ti =>
        rw [ht] at h
        simp only at h
        cases hc : cells? a with
        | none => rw [hc] at h; cases h
        | some cs =>
          rw [hc] at h
          simp only at h
          split at h
          · rename_i hb1
            split at h
            · rename_i hb2
              have hb1 := beq_true hb1
              have hb2 := ble_true hb2
              obtain ⟨f, hf1, hf2, hf3⟩ := fieldOf_get hfo
              have hst : sizeT tab f.type = some ti.size := by rw [hf2]; simp [sizeT, ht]
              have hpl := hp i f ti.size hf1 hst
              obtain ⟨us, hus, hru⟩ := Rel.cells hv hc
              have hlen : us.length = ti.size := by rw [hru.length, ← llen_eq, hb1]
              have hvl : vs.length = llen cells := by rw [hr.length, llen_eq]
              have hr' : RelL E w (lput cells off cs) ((us.zipIdx (off + 0)).foldl (fun vs (x : Value × Nat) => vs.set x.2 x.1) vs) := hr.put off hru
              obtain ⟨us', hfill, hrel⟩ := fill_sound hT hp hf hr' h
              refine ⟨us', ?_, hrel⟩
              have hle : off + us.length ≤ vs.length := by rw [hlen, hvl, ← hb1]; exact hb2
              simp only [Instr.fill, hpl, hf3, hus]
              rw [if_neg (by simp [hlen]; omega)]
              have := fill_put off us 0 vs
              rw [← Array.foldl_toList, Array.toList_zipIdx]
              rw [this]
              exact hfill
            · cases h
          · cases h


theorem relL_evs {E : Env} {w : World} {ρA : Opd} {ρ : Operand → Value} (hρ : ∀ x, Rel E w (ρA x) (ρ x)) : ∀ l : List Operand, RelL E w (evs ρA l) (l.map ρ)
  | [] => rfl
  | a :: l => ⟨_, _, rfl, hρ a, relL_evs hρ l⟩
theorem relP_evp {E : Env} {w : World} {ρA : Opd} {ρ : Operand → Value} (hρ : ∀ x, Rel E w (ρA x) (ρ x)) : ∀ l : List (Nat × Operand), RelP E w (evp ρA l) (l.map fun x => (x.1, ρ x.2))
  | [] => rfl
  | (i, a) :: l => ⟨_, _, rfl, hρ a, relP_evp hρ l⟩

theorem foldA_sound {P : Program} {E : Env} {w : World} {f : AV → AV → (AV → Prop) → Prop} {g : Value → Value → Sem Value}
    (hf : ∀ {x y : AV} {u v : Value} {K : AV → Prop}, Rel E w x u → Rel E w y v → f x y K → ∃ r av, (g u v).run P w = .ok r w ∧ Rel E w av r ∧ K av) :
    ∀ {l : List AV} {us : List Value} {x : AV} {u : Value} {K : AV → Prop}, Rel E w x u → RelL E w l us → foldA f x l K → ∃ r av, (us.foldlM g u).run P w = .ok r w ∧ Rel E w av r ∧ K av
  | [], us, x, u, K, hx, hl, h => by
    simp only [RelL] at hl; subst hl
    exact ⟨u, x, by simp, hx, h⟩
  | y :: l, us, x, u, K, hx, hl, h => by
    obtain ⟨v, us', rfl, hy, hl⟩ := hl
    simp only [foldA] at h
    obtain ⟨r, av, h1, h2, h3⟩ := hf hx hy h
    obtain ⟨r', av', h4, h5, h6⟩ := foldA_sound hf h2 hl h3
    exact ⟨r', av', by simp [List.foldlM_cons, h1, h4], h5, h6⟩

section qop
variable {P : Program} {tab : Tab} {B : Base} {E : Env} {m : List Blk} {w : World} (hT : TabOK P tab) (hS : SatM B E m w)
include hT hS

/-- **The quiet operations.** -/
theorem qopOld_sound {o : Oper} {ρA : Opd} {ρ : Operand → Value} (hρ : ∀ x, Rel E w (ρA x) (ρ x)) {K : AV → Prop} (h : qopOld tab o ρA m K) :
    ∃ v av, (execOp ρ o).run P w = .ok (.value v) w ∧ Rel E w av v ∧ K av := by
  have wrap : ∀ {s : Sem Value}, (∃ r av, s.run P w = .ok r w ∧ Rel E w av r ∧ K av) → ∃ v av, (do pure (Next.value (← s)) : Sem Next).run P w = .ok (.value v) w ∧ Rel E w av v ∧ K av := by
    rintro s ⟨r, av, h1, h2, h3⟩
    exact ⟨r, av, by simp [h1], h2, h3⟩
  unfold qopOld at h
  unfold execOp
  cases hop : o.op <;> rw [hop] at h <;> simp only at h ⊢ <;> try exact h.elim
  case move x => exact ⟨_, _, rfl, hρ x, h⟩
  case assign x => exact ⟨_, _, rfl, hρ x, h⟩
  case pick c a b =>
    have hc := hρ c
    cases hc' : ρA c <;> rw [hc'] at h hc <;> simp only at h <;> try exact h.elim
    rename_i cb
    simp only [Rel] at hc
    cases cb
    · exact ⟨_, _, by simp [hc, asBool], hρ b, h⟩
    · exact ⟨_, _, by simp [hc, asBool], hρ a, h⟩
  case build t parts =>
    cases ht : tlook tab t with
    | none => rw [ht] at h; exact h.elim
    | some ti =>
      rw [ht] at h
      simp only at h
      have he := hT t ti ht
      cases hk : ti.k <;> rw [hk] at h <;> simp only at h <;> try exact h.elim
      rename_i fs
      cases hz : cells? (ofV ti.zero) with
      | none => rw [hz] at h; exact h.elim
      | some z =>
        rw [hz] at h
        simp only at h
        cases hfo : fieldsOK tab fs with
        | false => rw [hfo] at h; exact h.elim
        | true =>
          rw [hfo] at h
          simp only at h
          cases hfi : fillA tab fs z (evp ρA parts.toList) with
          | none => rw [hfi] at h; exact h.elim
          | some cells =>
            rw [hfi] at h
            simp only at h
            apply wrap
            obtain ⟨d, hd, hkd⟩ := he.kind
            rw [hk] at hkd
            cases d <;> simp only [tkOf, reduceCtorEq, TK.struct.injEq] at hkd
            rename_i fields
            subst hkd
            have hsz : ∀ f ∈ fields.toList, (sizeOf f.type).run P w = .ok ((sizeT tab f.type).getD 0) w := by
              intro f hf
              obtain ⟨n, hn⟩ := fieldsOK_get hfo (f.type, f.offset) (List.mem_map.2 ⟨f, hf, rfl⟩)
              rw [sizeT_ok hT hn]
              simp [show sizeT tab f.type = some n from hn]
            have hm := run_mapM_places (P := P) (tab := tab) (w := w) fields.toList _ hsz
            have hmA : (fields.mapM (m := Sem) fun f => do pure (f.offset, ← sizeOf f.type)).run P w = .ok (fields.map fun f => (f.offset, (sizeT tab f.type).getD 0)) w := by
              rw [← Array.toList_inj.1 (show fields.toList.toArray.toList = fields.toList by simp)] 
              rw [List.mapM_toArray]
              simp only [Sem.run_map, hm, Result.andThen_ok]
              congr 1
              apply Array.ext'
              simp
            obtain ⟨vs, hvs, hrz⟩ := Rel.cells (rel_ofV E w ti.zero) hz
            obtain ⟨us, hfill, hrel⟩ := fill_sound (fields := fields.toList) (places := fun n => (fields.map fun f => (f.offset, (sizeT tab f.type).getD 0))[n]?) hT
              (by
                intro n f sz hf hs
                simp [show fields[n]? = some f by simpa using hf, hs]) (relP_evp hρ parts.toList) hrz hfi
            refine ⟨.agg us.toArray, .agg cells, ?_, ⟨us, rfl, hrel⟩, h⟩
            have hparts : (Array.map (fun x : Nat × Operand => (x.1, ρ x.2)) parts).toList = parts.toList.map fun x => (x.1, ρ x.2) := by simp
            simp only [Instr.build, Sem.run_bind, he.zeroValue w, Result.andThen_ok, Go.underlying, run_program, hd, Sem.run_pure, hmA, hvs, hparts, hfill]
  case load t a => exact wrap (loadA_sound hT hS (hρ a) h)
  case nilCheck x =>
    have hx := hρ x
    cases ha : addr0 (ρA x) with
    | false => rw [ha] at h; exact h.elim
    | true =>
      rw [ha] at h
      simp only at h
      cases hv : ρA x <;> rw [hv] at ha hx <;> simp only [addr0, Bool.false_eq_true] at ha
      case vptr => obtain ⟨b, off, vs, hb, _⟩ := hx; exact ⟨ρ x, _, by rw [hb]; rfl, hρ x, h⟩
      case ptr => obtain ⟨b, _, hb⟩ := hx; exact ⟨ρ x, _, by rw [hb]; rfl, hρ x, h⟩
      case rptr => obtain ⟨b, _, hb⟩ := hx; exact ⟨ρ x, _, by rw [hb]; rfl, hρ x, h⟩
      case fn f l m =>
        obtain ⟨a, b, hb, _⟩ := hx
        cases f <;> simp at ha
        exact ⟨ρ x, _, by rw [hb]; rfl, hρ x, h⟩
  case binOp op T x y _ => exact wrap (binA_sound hT (hρ x) (hρ y) h)
  case unOp op T x => exact wrap (unA_sound (hρ x) h)
  case makeFunc f a b =>
    exact ⟨.func f (a.map ρ) (b.map ρ), .fn f (evs ρA a.toList) (evs ρA b.toList), by simp [Instr.makeFunc], ⟨a.toList.map ρ, b.toList.map ρ, by rw [show a.map ρ = (a.toList.map ρ).toArray by apply Array.ext'; simp, show b.map ρ = (b.toList.map ρ).toArray by apply Array.ext'; simp], relL_evs hρ _, relL_evs hρ _⟩, h⟩
  case fieldAddr s x f =>
    cases ht : tlook tab s with
    | none => rw [ht] at h; exact h.elim
    | some ti =>
      rw [ht] at h
      simp only at h
      cases hk : ti.k <;> rw [hk] at h <;> simp only at h <;> try exact h.elim
      rename_i fs
      obtain ⟨d, hd, hkd⟩ := (hT s ti ht).kind
      rw [hk] at hkd
      cases d <;> simp only [tkOf, reduceCtorEq, TK.struct.injEq] at hkd
      rename_i fields
      subst hkd
      cases hfo : fieldOf (fields.toList.map fun f => (f.type, f.offset)) f with
      | none => rw [hfo] at h; exact h.elim
      | some tf =>
        obtain ⟨ft, off⟩ := tf
        rw [hfo] at h
        simp only at h
        cases hs : sizeT tab ft with
        | none => rw [hs] at h; exact h.elim
        | some n =>
          rw [hs] at h
          cases n with
          | zero => exact h.elim
          | succ n =>
            simp only at h
            obtain ⟨fl, hf1, hf2, hf3⟩ := fieldOf_get hfo
            have hsz : (sizeOf fl.type).run P w = .ok (n + 1) w := by rw [hf2]; exact sizeT_ok hT hs
            have hfl : fields[f]? = some fl := by simpa using hf1
            apply wrap
            have hrun : ∀ b o', (Instr.fieldAt s (.pointer (some ⟨b, o', none⟩)) f).run P w = .ok (.pointer (some ⟨b, o' + off, none⟩)) w := by
              intro b o'
              simp [Instr.fieldAt, Go.underlying, hd, hfl, Instr.sureAddr, fieldPlace, hsz, addr_add, hf3]
            have hx := hρ x
            cases hv : ρA x <;> rw [hv] at h hx <;> simp only at h <;> try exact h.elim
            case vptr src cells =>
              obtain ⟨b, o', vs, hb, hok, hc, hr, hne⟩ := hx
              cases hdr : ldrop off cells with
              | nil => rw [hdr] at h; exact h.elim
              | cons a l =>
                rw [hdr] at h
                have hr' := hr.drop off
                rw [hdr] at hr'
                exact ⟨_, _, by rw [hb]; exact hrun _ _, rel_vptr hok (hc.drop off) hr' (by simp), h⟩
            case ptr i o' =>
              obtain ⟨b, hb1, hb⟩ := hx
              exact ⟨_, _, by rw [hb]; exact hrun _ _, rel_ptr hb1, h⟩
            case rptr i t idx o' =>
              obtain ⟨b, hb1, hb⟩ := hx
              refine ⟨_, _, by rw [hb]; exact hrun _ _, ?_, h⟩
              rw [Nat.add_assoc]; exact rel_rptr hb1
  case field s x f =>
    cases ht : tlook tab s with
    | none => rw [ht] at h; exact h.elim
    | some ti =>
      rw [ht] at h
      simp only at h
      cases hk : ti.k <;> rw [hk] at h <;> simp only at h <;> try exact h.elim
      rename_i fs
      obtain ⟨d, hd, hkd⟩ := (hT s ti ht).kind
      rw [hk] at hkd
      cases d <;> simp only [tkOf, reduceCtorEq, TK.struct.injEq] at hkd
      rename_i fields
      subst hkd
      cases hfo : fieldOf (fields.toList.map fun f => (f.type, f.offset)) f with
      | none => rw [hfo] at h; exact h.elim
      | some tf =>
        obtain ⟨ft, off⟩ := tf
        rw [hfo] at h
        simp only at h
        obtain ⟨fl, hf1, hf2, hf3⟩ := fieldOf_get hfo
        have hfl : fields[f]? = some fl := by simpa using hf1
        have hx := hρ x
        cases hv : ρA x <;> rw [hv] at h hx <;> simp only at h <;> try exact h.elim
        obtain ⟨vs, hb, hr⟩ := hx
        obtain ⟨r, av, h1, h2, h3⟩ := part_part hT (hr.drop off) h
        apply wrap
        refine ⟨r, av, ?_, h2, h3⟩
        simp [Instr.field, Go.underlying, hd, hfl, hb, asAgg, hf2, hf3, h1]
  case indexAddr t x ix => exact wrap (indexA_sound hT hS (hρ x) (hρ ix) h)
  case extract t i =>
    have hx := hρ t
    cases hv : ρA t <;> rw [hv] at h hx <;> simp only at h <;> try exact h.elim
    rename_i l
    obtain ⟨vs, hb, hr⟩ := hx
    apply wrap
    split at h
    · rename_i hi
      obtain ⟨v, hv1, hv2⟩ := hr.get? i (by rw [← llen_eq]; exact ble_true hi)
      exact ⟨v, _, by simp [hb, Instr.extract, hv1], hv2, h⟩
    · exact h.elim
  case call c =>
    cases hcal : c.callee <;> rw [hcal] at h <;> simp only at h <;> try exact h.elim
    rename_i b
    have hl := relL_evs hρ c.args.toList
    have hres : ∀ (ty : TypeId), ∃ cs : Array Bool, (do let d ← resolve ρ c ty; invoke d.target d.args : Sem Next).run P w = (builtin b c.argTypes ty cs (c.args.map ρ)).run P w := by
      intro ty
      simp only [resolve, hcal]
      exact ⟨_, rfl⟩
    cases b <;> (try simp only at h) <;> try exact h.elim
    case len =>
      cases hev : evs ρA c.args.toList with
      | nil => rw [hev] at h; exact h.elim
      | cons x l =>
        rw [hev] at h hl
        cases l with
        | cons _ _ => exact h.elim
        | nil =>
          simp only at h
          cases hat : c.argTypes.toList with
          | nil => rw [hat] at h; exact h.elim
          | cons t l =>
            rw [hat] at h
            cases l with
            | cons _ _ => exact h.elim
            | nil =>
              simp only at h
              obtain ⟨v, us, hvs, hx, hus⟩ := hl
              simp only [RelL] at hus
              subst hus
              obtain ⟨r, av, h1, h2, h3⟩ := lenA_sound hT hS (ty := o.type) hx h
              refine ⟨r, av, ?_, h2, h3⟩
              obtain ⟨cs, hcs⟩ := hres o.type
              rw [hcs]
              have ha : c.args.map ρ = #[v] := by apply Array.ext'; simpa using hvs
              have hb : c.argTypes = #[t] := by apply Array.ext'; simpa using hat
              rw [ha, hb]
              simp [builtin, h1]
    case cap =>
      cases hev : evs ρA c.args.toList with
      | nil => rw [hev] at h; exact h.elim
      | cons x l =>
        rw [hev] at h hl
        cases l with
        | cons _ _ => exact h.elim
        | nil =>
          simp only at h
          cases hat : c.argTypes.toList with
          | nil => rw [hat] at h; exact h.elim
          | cons t l =>
            rw [hat] at h
            cases l with
            | cons _ _ => exact h.elim
            | nil =>
              simp only at h
              obtain ⟨v, us, hvs, hx, hus⟩ := hl
              simp only [RelL] at hus
              subst hus
              split at h
              · rename_i cv hcv
                unfold capA at hcv
                split at hcv
                · rename_i hk
                  cases hcv
                  obtain ⟨d, hd, hkd⟩ := kind_ok hT hk (by simp)
                  cases d <;> simp only [tkOf, reduceCtorEq] at hkd
                  obtain ⟨a, rfl, _⟩ := hx
                  refine ⟨.int .i64 0, .int .i64 0, ?_, rel_int (by unfold IntKind.has; decide), h⟩
                  obtain ⟨cs, hcs⟩ := hres o.type
                  rw [hcs]
                  have ha : c.args.map ρ = #[.slice a 0 0] := by apply Array.ext'; simpa using hvs
                  have hb : c.argTypes = #[t] := by apply Array.ext'; simpa using hat
                  rw [ha, hb]
                  simp [builtin, Builtin.cap_, underlying, hd, goInt]
                · cases hcv
              · exact h.elim
    case max =>
      cases hev : evs ρA c.args.toList with
      | nil => rw [hev] at h; exact h.elim
      | cons x l =>
        rw [hev] at h hl
        simp only at h
        obtain ⟨v, us, hvs, hx, hus⟩ := hl
        obtain ⟨r, av, h1, h2, h3⟩ := foldA_sound (P := P) (g := Builtin.max2) (fun h1 h2 h3 => maxA_sound h1 h2 h3) hx hus h
        refine ⟨r, av, ?_, h2, h3⟩
        obtain ⟨cs, hcs⟩ := hres o.type
        rw [hcs]
        have ha : (c.args.map ρ).toList = v :: us := by simpa using hvs
        simp only [builtin, Builtin.max_, ha, h1, Sem.run_bind, Result.andThen_ok, Sem.run_pure]
    case min =>
      cases hev : evs ρA c.args.toList with
      | nil => rw [hev] at h; exact h.elim
      | cons x l =>
        rw [hev] at h hl
        simp only at h
        obtain ⟨v, us, hvs, hx, hus⟩ := hl
        obtain ⟨r, av, h1, h2, h3⟩ := foldA_sound (P := P) (g := Builtin.min2) (fun h1 h2 h3 => minA_sound h1 h2 h3) hx hus h
        refine ⟨r, av, ?_, h2, h3⟩
        obtain ⟨cs, hcs⟩ := hres o.type
        rw [hcs]
        have ha : (c.args.map ρ).toList = v :: us := by simpa using hvs
        simp only [builtin, Builtin.min_, ha, h1, Sem.run_bind, Result.andThen_ok, Sem.run_pure]
end qop

/-! ### by values -/

def AllP (l : List Prop) : Prop := ∀ p ∈ l, p
theorem allP_nil : AllP [] := by intro p h; cases h
theorem allP_cons {p : Prop} {l : List Prop} : AllP (p :: l) ↔ p ∧ AllP l :=
  ⟨fun h => ⟨h p (List.mem_cons_self ..), fun q hq => h q (List.mem_cons_of_mem _ hq)⟩, fun h q hq => by
    cases hq with
    | head => exact h.1
    | tail _ hq => exact h.2 q hq⟩
theorem allP_app {k l : List Prop} : AllP (k ++ l) ↔ AllP k ∧ AllP l := by
  simp only [AllP, List.mem_append]
  exact ⟨fun h => ⟨fun p hp => h p (.inl hp), fun p hp => h p (.inr hp)⟩, fun h p hp => hp.elim (h.1 p) (h.2 p)⟩
theorem needL_iff : ∀ {l : List Prop} {X : Prop}, needL l X ↔ AllP l ∧ X
  | [], X => by simp [needL, allP_nil]
  | p :: l, X => by simp only [needL, need, allP_cons, needL_iff, and_assoc]
theorem allP_impL {b : Bool} : ∀ {l : List Prop}, AllP (impL b l) ↔ (b = true → AllP l)
  | [] => by simp [impL, allP_nil]
  | p :: l => by
    simp only [impL, allP_cons, allP_impL, impB]
    cases b <;> simp

theorem uniN_eq : ∀ k l : List Nat, uniN k l = uni k l
  | [], l => rfl
  | a :: k, l => by simp only [uniN, uni, uniN_eq k l]

theorem Env.ok_mono {E : Env} {src src' : List Nat} {b : Nat} (h : ∀ i ∈ src, i ∈ src') (hb : E.ok src b) : E.ok src' b := ⟨hb.1, fun i hi => h i (hb.2 i hi)⟩
theorem view_mono {E : Env} {w : World} {src src' : List Nat} {t : Ty} {xs : List (den t)} {v : Value} (h : ∀ i ∈ src, i ∈ src') (hr : Rel E w (.view src t xs) v) : Rel E w (.view src' t xs) v := by
  simp only [Rel] at hr ⊢
  exact DRep.keep (t := .list t) (fun b hb _ => ⟨Env.ok_mono h hb, fun _ _ h => h⟩) hr
theorem nsl_view {E : Env} {w : World} {src : List Nat} {t : Ty} {b : Bool} {v : Value} (hr : Rel E w (.nsl b) v) : Rel E w (.view src t []) v := by
  obtain ⟨a, rfl, _⟩ := hr
  exact ⟨a, 0, rfl, by simp [LIM], .inl rfl⟩

theorem castL_eq {t t' : Ty} {xs : List (den t)} {ys : List (den t')} (h : castL t t' xs = some ys) : ∃ e : t = t', ys = e ▸ xs := by
  unfold castL at h
  split at h
  · rename_i e; cases h; exact ⟨e, rfl⟩
  · cases h

mutual
theorem selV_sound {E : Env} {w : World} {c : Bool} : ∀ {x y z : AV} {v : Value}, selV c x y = some z → (c = true → Rel E w x v) → (c = false → Rel E w y v) → Rel E w z v
  | .int k a, y, z, v, h, hx, hy => by
    cases y <;> simp only [selV, reduceCtorEq] at h
    rename_i k' b
    split at h
    · rename_i hk; subst hk; cases h
      cases c
      · simpa [selI] using hy rfl
      · simpa [selI] using hx rfl
    · cases h
  | .bool a, y, z, v, h, hx, hy => by
    cases y <;> simp only [selV, reduceCtorEq] at h
    cases h
    cases c
    · simpa [selB] using hy rfl
    · simpa [selB] using hx rfl
  | .str a, y, z, v, h, hx, hy => by
    cases y <;> simp only [selV, reduceCtorEq] at h
    cases h
    cases c
    · simpa [selX] using hy rfl
    · simpa [selX] using hx rfl
  | .view src t xs, y, z, v, h, hx, hy => by
    cases y <;> simp only [selV, reduceCtorEq] at h
    case view src' t' ys =>
      cases hc : castL t' t ys with
      | none => rw [hc] at h; cases h
      | some ys' =>
        rw [hc] at h; cases h
        obtain ⟨e, rfl⟩ := castL_eq hc
        subst e
        rw [uniN_eq]
        cases c
        · exact view_mono (fun i hi => mem_uniR hi) (hy rfl)
        · exact view_mono (fun i hi => mem_uniL hi) (hx rfl)
    case nsl b =>
      cases h
      cases c
      · exact nsl_view (hy rfl)
      · exact hx rfl
  | .nsl b, y, z, v, h, hx, hy => by
    cases y <;> simp only [selV, reduceCtorEq] at h
    case view src' t' ys =>
      cases h
      cases c
      · exact hy rfl
      · exact nsl_view (hx rfl)
    case nsl b' =>
      cases b <;> cases b' <;> simp only [andb, reduceCtorEq] at h
      cases h
      cases c
      · exact hy rfl
      · exact hx rfl
  | .nilp, y, z, v, h, hx, hy => by
    cases y <;> simp only [selV, reduceCtorEq] at h
    cases h
    cases c
    · exact hy rfl
    · exact hx rfl
  | .ptr i a, y, z, v, h, hx, hy => by
    cases y <;> simp only [selV, reduceCtorEq] at h
    rename_i j b
    split at h
    · rename_i h1 h2
      cases h
      have h1 := beq_true h1
      have h2 := beq_true h2
      subst h1 h2
      cases c
      · exact hy rfl
      · exact hx rfl
    · cases h
  | .own i, y, z, v, h, hx, hy => by
    cases y <;> simp only [selV, reduceCtorEq] at h
    rename_i j
    split at h
    · rename_i h1
      cases h
      have h1 := beq_true h1
      subst h1
      cases c
      · exact hy rfl
      · exact hx rfl
    · cases h
  | .agg l, y, z, v, h, hx, hy => by
    cases y <;> simp only [selV, reduceCtorEq] at h
    rename_i l'
    cases hs : selVL c l l' with
    | none => rw [hs] at h; cases h
    | some l'' =>
      rw [hs] at h; cases h
      cases c
      · obtain ⟨vs, rfl, hr⟩ := hy rfl
        exact ⟨vs, rfl, selVL_sound hs (fun h => by cases h) (fun _ => hr)⟩
      · obtain ⟨vs, rfl, hr⟩ := hx rfl
        exact ⟨vs, rfl, selVL_sound hs (fun _ => hr) (fun h => by cases h)⟩
  | .tup l, y, z, v, h, hx, hy => by
    cases y <;> simp only [selV, reduceCtorEq] at h
    rename_i l'
    cases hs : selVL c l l' with
    | none => rw [hs] at h; cases h
    | some l'' =>
      rw [hs] at h; cases h
      cases c
      · obtain ⟨vs, rfl, hr⟩ := hy rfl
        exact ⟨vs, rfl, selVL_sound hs (fun h => by cases h) (fun _ => hr)⟩
      · obtain ⟨vs, rfl, hr⟩ := hx rfl
        exact ⟨vs, rfl, selVL_sound hs (fun _ => hr) (fun h => by cases h)⟩
  | .bad, y, z, v, h, _, _ => by cases y <;> simp [selV] at h
  | .und, y, z, v, h, _, _ => by cases y <;> simp [selV] at h
  | .vptr .., y, z, v, h, _, _ => by cases y <;> simp [selV] at h
  | .sub .., y, z, v, h, _, _ => by cases y <;> simp [selV] at h
  | .vsl .., y, z, v, h, _, _ => by cases y <;> simp [selV] at h
  | .rptr .., y, z, v, h, _, _ => by cases y <;> simp [selV] at h
  | .fn .., y, z, v, h, _, _ => by cases y <;> simp [selV] at h
  | .nilfn, y, z, v, h, _, _ => by cases y <;> simp [selV] at h
  | .nilif, y, z, v, h, _, _ => by cases y <;> simp [selV] at h
  | .iface .., y, z, v, h, _, _ => by cases y <;> simp [selV] at h
theorem selVL_sound {E : Env} {w : World} {c : Bool} : ∀ {l l' l'' : List AV} {vs : List Value}, selVL c l l' = some l'' → (c = true → RelL E w l vs) → (c = false → RelL E w l' vs) → RelL E w l'' vs
  | [], [], l'', vs, h, hx, hy => by
    simp only [selVL, Option.some.injEq] at h; subst h
    cases c
    · exact hy rfl
    · exact hx rfl
  | a :: l, b :: l', l'', vs, h, hx, hy => by
    simp only [selVL] at h
    split at h
    · rename_i x y h1 h2
      cases h
      have key : ∃ v us, vs = v :: us ∧ (c = true → Rel E w a v ∧ RelL E w l us) ∧ (c = false → Rel E w b v ∧ RelL E w l' us) := by
        cases c
        · obtain ⟨v, us, rfl, h3, h4⟩ := hy rfl
          exact ⟨v, us, rfl, (fun h => by cases h), fun _ => ⟨h3, h4⟩⟩
        · obtain ⟨v, us, rfl, h3, h4⟩ := hx rfl
          exact ⟨v, us, rfl, fun _ => ⟨h3, h4⟩, (fun h => by cases h)⟩
      obtain ⟨v, us, rfl, k1, k2⟩ := key
      exact ⟨v, us, rfl, selV_sound h1 (fun h => (k1 h).1) (fun h => (k2 h).1), selVL_sound h2 (fun h => (k1 h).2) (fun h => (k2 h).2)⟩
    · cases h
  | [], _ :: _, _, _, h, _, _ => by simp [selVL] at h
  | _ :: _, [], _, _, h, _, _ => by simp [selVL] at h
end

theorem pickVV_sound {E : Env} {w : World} {c : Bool} {x y z : AV} {ps : List Prop} {v : Value} (h : pickVV c x y = some (ps, z)) (hp : AllP ps) (hx : c = true → Rel E w x v) (hy : c = false → Rel E w y v) : Rel E w z v := by
  have sel : ovO (selV c x y) = some (ps, z) → Rel E w z v := by
    intro h
    cases hs : selV c x y with
    | none => rw [hs] at h; cases h
    | some z' => rw [hs] at h; cases h; exact selV_sound hs hx hy
  unfold pickVV at h
  split at h
  · cases h
    exact hy (allP_cons.1 hp).1
  · cases h
    exact hx (allP_cons.1 hp).1
  · exact sel h

theorem need_ov {ps : List Prop} {v v' : AV} (h : ov v = some (ps, v')) : ps = [] ∧ v = v' := by cases h; exact ⟨rfl, rfl⟩

theorem intV_sound {P : Program} {E : Env} {w : World} {op : BinOp} {k : IntKind} {a b : Int} {x y : Operand} {T : TypeId} {ps : List Prop} {av : AV} (ha : k.has a) (hb : k.has b)
    (h : intV op k a b = some (ps, av)) (hp : AllP ps) : ∃ v, (do eqGuard op T x y (.int k a) (.int k b); binOp op T (.int k a) (.int k b) : Sem Value).run P w = .ok v w ∧ Rel E w av v := by
  have old : intOp op k a b (fun z => z = av) → ∃ v, (do eqGuard op T x y (.int k a) (.int k b); binOp op T (.int k a) (.int k b) : Sem Value).run P w = .ok v w ∧ Rel E w av v := fun h => by
    obtain ⟨v, av', h1, h2, rfl⟩ := intOp_sound (P := P) (E := E) (w := w) (x := x) (y := y) (T := T) ha hb h
    exact ⟨v, h1, h2⟩
  have hg : (eqGuard op T x y (.int k a) (.int k b)).run P w = .ok () w := by
    unfold eqGuard; cases op <;> simp
  cases op <;> simp only [intV, ov, ovp, Option.some.injEq, Prod.mk.injEq, reduceCtorEq] at h
  case and => obtain ⟨rfl, rfl⟩ := h; exact ⟨.int k (bandW k a b), by simp [hg, binOp, Op.intBits, bandW], rel_int (has_wrap k _)⟩
  case or => obtain ⟨rfl, rfl⟩ := h; exact ⟨.int k (borW k a b), by simp [hg, binOp, Op.intBits, borW], rel_int (has_wrap k _)⟩
  case xor => obtain ⟨rfl, rfl⟩ := h; exact ⟨.int k (bxorW k a b), by simp [hg, binOp, Op.intBits, bxorW], rel_int (has_wrap k _)⟩
  case andNot => obtain ⟨rfl, rfl⟩ := h; exact ⟨.int k (bclrW k a b), by simp [hg, binOp, Op.intBits, bclrW], rel_int (has_wrap k _)⟩
  all_goals
    obtain ⟨rfl, rfl⟩ := h
    apply old
    first
      | exact rfl
      | exact ⟨(allP_cons.1 hp).1, rfl⟩

theorem shr_has {k : IntKind} {a : Int} (n : Nat) (ha : k.has a) : k.has (a.fdiv (2 ^ n)) := by
  unfold IntKind.has at *
  have hmin : k.min ≤ 0 := by cases k <;> decide
  have hmax : 0 ≤ k.max := by cases k <;> decide
  have h2 : (1 : Int) ≤ 2 ^ n := by
    have : (0 : Int) < 2 ^ n := Int.pow_pos (by decide)
    omega
  rw [Int.fdiv_eq_ediv_of_nonneg _ (by omega)]
  rcases Int.le_total 0 a with h | h
  · have h3 := Int.ediv_nonneg (a := a) (b := 2 ^ n) h (by omega)
    have h4 : a / 2 ^ n ≤ a := Int.ediv_le_self _ h
    omega
  · have h3 : a / 2 ^ n ≤ 0 / 2 ^ n := Int.ediv_le_ediv (by omega) h
    rw [Int.zero_ediv] at h3
    have h4 : a ≤ a / 2 ^ n := by
      rw [Int.le_ediv_iff_mul_le (by omega)]
      have := Int.mul_le_mul_of_nonpos_left h h2
      rw [Int.mul_one] at this
      omega
    omega

theorem shiftV_sound {P : Program} {E : Env} {w : World} {op : BinOp} {k k' : IntKind} {a b : Int} {x y : Operand} {T : TypeId} {ps : List Prop} {av : AV} (ha : k.has a)
    (h : shiftV op k a b = some (ps, av)) (hp : AllP ps) : ∃ v, (do eqGuard op T x y (.int k a) (.int k' b); binOp op T (.int k a) (.int k' b) : Sem Value).run P w = .ok v w ∧ Rel E w av v := by
  have hg : (eqGuard op T x y (.int k a) (.int k' b)).run P w = .ok () w := by
    unfold eqGuard; cases op <;> simp
  cases op <;> simp only [shiftV, ovp, Option.some.injEq, Prod.mk.injEq, reduceCtorEq] at h
  case shl =>
    obtain ⟨rfl, rfl⟩ := h
    have h0 : ¬ b < 0 := by have := (allP_cons.1 hp).1; unfold geZ at this; omega
    exact ⟨.int k (shlW k a b), by simp [hg, binOp, Op.shift, h0, shlW], rel_int (has_wrap k _)⟩
  case shr =>
    obtain ⟨rfl, rfl⟩ := h
    have h0 : ¬ b < 0 := by have := (allP_cons.1 hp).1; unfold geZ at this; omega
    exact ⟨.int k (shrW k a b), by simp [hg, binOp, Op.shift, h0, shrW], rel_int (shr_has _ ha)⟩

theorem strV_sound {P : Program} {E : Env} {w : World} {op : BinOp} {a b : List UInt8} {x y : Operand} {T : TypeId} {ps : List Prop} {av : AV} (ha : a.length ≤ LIM) (hb : b.length ≤ LIM)
    (h : strV op a b = some (ps, av)) (hp : AllP ps) : ∃ v, (do eqGuard op T x y (.string ⟨a.toArray⟩) (.string ⟨b.toArray⟩); binOp op T (.string ⟨a.toArray⟩) (.string ⟨b.toArray⟩) : Sem Value).run P w = .ok v w ∧ Rel E w av v := by
  have old : strOp op a b (fun z => z = av) → ∃ v, (do eqGuard op T x y (.string ⟨a.toArray⟩) (.string ⟨b.toArray⟩); binOp op T (.string ⟨a.toArray⟩) (.string ⟨b.toArray⟩) : Sem Value).run P w = .ok v w ∧ Rel E w av v := fun h => by
    obtain ⟨v, av', h1, h2, rfl⟩ := strOp_sound (P := P) (E := E) (w := w) (x := x) (y := y) (T := T) ha hb h
    exact ⟨v, h1, h2⟩
  cases op <;> simp only [strV, ov, ovp, Option.some.injEq, Prod.mk.injEq, reduceCtorEq] at h
  all_goals
    obtain ⟨rfl, rfl⟩ := h
    apply old
    first
      | exact rfl
      | exact ⟨(allP_cons.1 hp).1, rfl⟩

theorem eqV_eqA {tab : Tab} {T : TypeId} {x y : AV} {b : Bool} (h : eqV tab T x y = some b) : eqA tab T x y (fun c => c = b) := by
  unfold eqV at h
  unfold eqA
  split at h <;> simp_all

theorem partV_partQ {tab : Tab} {t : TypeId} {cells : List AV} {v : AV} (h : partV tab t cells = some v) : partQ tab t cells (fun x => x = v) := by
  unfold partV at h
  unfold partQ
  cases ht : tlook tab t with
  | none => rw [ht] at h; cases h
  | some ti =>
    rw [ht] at h
    simp only at h ⊢
    have hd : headV cells = some v → headQ cells (fun x => x = v) := by
      intro h
      cases cells with
      | nil => cases h
      | cons a l => cases h; rfl
    cases hk : ti.k with
    | struct fs =>
      rw [hk] at h
      simp only at h ⊢
      cases hb : Nat.ble ti.size (llen cells) <;> simp only [hb, reduceCtorEq, Option.some.injEq] at h ⊢
      exact h
    | arr n e =>
      rw [hk] at h
      simp only at h ⊢
      cases hb : Nat.ble ti.size (llen cells) <;> simp only [hb, reduceCtorEq, Option.some.injEq] at h ⊢
      exact h
    | _ => rw [hk] at h; exact hd h

/-- Elements compared one behind the other. -/
def eqElems (P : Program) (d : Nat) (xs ys : Array Value) : List (TypeId × Nat) → Sem Bool
  | [] => pure true
  | (t, o) :: l => do
    let a ← part t xs o
    let b ← part t ys o
    let r ← Op.equalIn d t a b
    if (!r) = true then pure false else eqElems P d xs ys l
theorem eqFields_elems {P : Program} {w : World} {d : Nat} {xs ys : Array Value} : ∀ {fs : List Field}, (∀ f ∈ fs, f.name ≠ "_") → Op.eqFields d xs ys fs = eqElems P d xs ys (fs.map fun f => (f.type, f.offset))
  | [], _ => rfl
  | f :: fs, h => by
    have ih := eqFields_elems (P := P) (w := w) (d := d) (xs := xs) (ys := ys) (fs := fs) fun g hg => h g (by simp [hg])
    simp only [Op.eqFields, eqElems, List.map_cons, if_pos (h f (by simp)), ih]
theorem places_eq (e m : Nat) : ∀ n i, places e m n i = (List.range' i n).map fun j => (e, j * m)
  | 0, i => rfl
  | n + 1, i => by simp only [places, List.range'_succ, List.map_cons, places_eq e m n (i + 1)]
theorem run_equalIn_array {P : Program} {w : World} {d t e n m : Nat} {xs ys : Array Value} (ht : P.underlying t = some (.array n e)) (hs : ∀ w, (sizeOf e).run P w = .ok m w) :
    (Op.equalIn (d + 1) t (.agg xs) (.agg ys)).run P w = (eqElems P d xs ys (places e m n 0)).run P w := by
  simp only [Op.equalIn, Sem.run_bind, run_underlying ht, Result.andThen_ok, hs, Std.Legacy.Range.forIn_eq_forIn_range', Std.Legacy.Range.size, places_eq]
  simp only [Nat.sub_zero, Nat.add_one_sub_one, Nat.div_one]
  generalize List.range' 0 n = l
  induction l generalizing w with
  | nil => simp [eqElems]
  | cons f fs ih =>
    simp only [List.forIn_cons, eqElems, List.map_cons, Sem.run_bind, Sem.run_ite]
    generalize (part e xs (f * m)).run P w = r1
    cases r1 with
    | ok a w1 =>
      simp only [Result.andThen_ok]
      generalize (part e ys (f * m)).run P w1 = r2
      cases r2 with
      | ok b w2 =>
        simp only [Result.andThen_ok]
        generalize (Op.equalIn d e a b).run P w2 = r3
        cases r3 with
        | ok r w3 =>
          cases r
          · simp only [Result.andThen_ok, Bool.not_false, if_true, Sem.run_pure]
          · simp only [Result.andThen_ok, Bool.not_true, Bool.false_eq_true, if_false, Sem.run_pure]
            exact ih
        | halt x w3 => simp [Result.andThen]
      | halt x w2 => simp [Result.andThen]
    | halt x w1 => simp [Result.andThen]
theorem eqParts_sound {P : Program} {tab : Tab} {E : Env} {w : World} (hT : TabOK P tab) {d : Nat} {rec : TypeId → AV → AV → Option Bool}
    (hrec : ∀ {t x y b u v}, Rel E w x u → Rel E w y v → rec t x y = some b → (Op.equalIn d t u v).run P w = .ok b w) {xs ys : List AV} {us vs : List Value} (hx : RelL E w xs us) (hy : RelL E w ys vs) :
    ∀ {l : List (TypeId × Nat)} {b : Bool}, eqParts tab rec xs ys l = some b → (eqElems P d us.toArray vs.toArray l).run P w = .ok b w
  | [], b, h => by cases h; simp [eqElems]
  | (t, o) :: l, b, h => by
    have one : ∀ {b}, eqPart tab rec t xs ys o = some b → ∃ a c, (part t us.toArray o).run P w = .ok a w ∧ (part t vs.toArray o).run P w = .ok c w ∧ (Op.equalIn d t a c).run P w = .ok b w := by
      intro b h
      unfold eqPart at h
      split at h
      · rename_i x y h1 h2
        obtain ⟨a, _, h3, h4, rfl⟩ := part_part (P := P) hT (hx.drop o) (partV_partQ h1)
        obtain ⟨c, _, h5, h6, rfl⟩ := part_part (P := P) hT (hy.drop o) (partV_partQ h2)
        exact ⟨a, c, h3, h5, hrec h4 h6 h⟩
      · cases h
    cases l with
    | nil =>
      obtain ⟨a, c, h1, h2, h3⟩ := one h
      simp only [eqElems, Sem.run_bind, h1, h2, h3, Result.andThen_ok, Sem.run_ite, Sem.run_pure]
      cases b <;> rfl
    | cons e l =>
      change (match eqPart tab rec t xs ys o, eqParts tab rec xs ys (e :: l) with | some p, some q => some (andB p q) | _, _ => none) = some b at h
      split at h
      · rename_i p q hp hq
        cases h
        obtain ⟨a, c, h1, h2, h3⟩ := one hp
        have ih := eqParts_sound hT hrec hx hy hq
        rw [eqElems]
        simp only [Sem.run_bind, h1, h2, h3, Result.andThen_ok, Sem.run_ite, Sem.run_pure]
        cases p
        · rfl
        · simpa [andB] using ih
      · cases h
theorem eqAg_sound {P : Program} {tab : Tab} {E : Env} {w : World} (hT : TabOK P tab) : ∀ {d : Nat} {t : TypeId} {x y : AV} {b : Bool} {u v : Value} (D : Nat), Rel E w x u → Rel E w y v → eqAg tab d t x y = some b → (Op.equalIn (D + d) t u v).run P w = .ok b w
  | 0, _, _, _, _, _, _, _, _, _, h => by cases h
  | d + 1, t, x, y, b, u, v, D, hx, hy, h => by
    unfold eqAg at h
    split at h
    · rename_i ti ht
      have he := hT t ti ht
      obtain ⟨ds, hd, hkd⟩ := he.kind
      split at h
      · rename_i hk
        obtain ⟨rfl, _⟩ := hx
        obtain ⟨rfl, _⟩ := hy
        rw [hk] at hkd
        split at h
        · rename_i hkk; subst hkk; cases h
          cases ds <;> simp only [tkOf, reduceCtorEq] at hkd
          rw [← Nat.add_assoc, run_equalIn_int _ _ _ _ _ _ _ hd]; rfl
        · cases h
      · rename_i hk
        cases hx; cases hy; cases h
        rw [hk] at hkd
        cases ds <;> simp only [tkOf, reduceCtorEq] at hkd
        rw [← Nat.add_assoc, run_equalIn_bool' _ _ _ _ _ hd]; rfl
      · rename_i hk
        obtain ⟨rfl, _⟩ := hx
        obtain ⟨rfl, _⟩ := hy
        cases h
        rw [hk] at hkd
        cases ds <;> simp only [tkOf, reduceCtorEq] at hkd
        rw [← Nat.add_assoc, run_equalIn_string _ _ _ _ _ hd]
        simp only [ByteArray.toList_mk, seqB]
      · rename_i fs xs ys hk
        obtain ⟨us, rfl, hx⟩ := hx
        obtain ⟨vs, rfl, hy⟩ := hy
        rw [hk] at hkd
        split at h
        · rename_i hq
          cases ds <;> simp only [tkOf, reduceCtorEq, TK.struct.injEq] at hkd
          rename_i F
          obtain ⟨_, h2⟩ := he.eqs hq
          obtain ⟨h3, h4⟩ := h2 F hd
          have hf : P.fieldsOf t = F := by simp [Program.fieldsOf, hd]
          rw [← Nat.add_assoc, run_equalIn_struct w (D + d) t _ _ (by rw [hf]; exact hd) h3, hf, eqFields_elems (P := P) (w := w) h4, hkd]
          exact eqParts_sound hT (fun {_ _ _ _ _ _} g1 g2 g3 => eqAg_sound hT D g1 g2 g3) hx hy h
        · cases h
      · rename_i n e xs ys hk
        obtain ⟨us, rfl, hx⟩ := hx
        obtain ⟨vs, rfl, hy⟩ := hy
        rw [hk] at hkd
        split at h
        · rename_i m hq hm
          cases ds <;> simp only [tkOf, reduceCtorEq, TK.arr.injEq] at hkd
          obtain ⟨rfl, rfl⟩ := hkd
          rw [← Nat.add_assoc, run_equalIn_array hd (fun w => sizeT_ok hT hm)]
          exact eqParts_sound hT (fun {_ _ _ _ _ _} g1 g2 g3 => eqAg_sound hT D g1 g2 g3) hx hy h
        · cases h
      · cases h
    · cases h
theorem eqX_sound {P : Program} {tab : Tab} {E : Env} {w : World} (hT : TabOK P tab) {T : TypeId} {x y : AV} {u v : Value} {b : Bool} (hx : Rel E w x u) (hy : Rel E w y v)
    (h : eqX tab T x y = some b) : (Op.equal T u v).run P w = .ok b w ∧ (∀ op s t, (eqGuard op T s t u v).run P w = .ok () w) ∧
      binOp .eql T u v = (do pure (.bool (← Op.equal T u v))) ∧ binOp .neq T u v = (do pure (.bool (!(← Op.equal T u v)))) := by
  unfold eqX at h
  split at h
  · rename_i xs ys
    have h0 := eqAg_sound (P := P) hT 9994 hx hy h
    unfold eqAg at h
    split at h
    · rename_i ti ht
      have he := hT T ti ht
      have hq : ti.eqs = true := by
        split at h <;> try (simp_all; done)
        all_goals
          split at h
          · assumption
          · cases h
      obtain ⟨us, rfl, _⟩ := hx
      obtain ⟨vs, rfl, _⟩ := hy
      exact ⟨h0, fun op s t => run_eqGuard_agg w op T s t _ _ (he.eqs hq).1, rfl, rfl⟩
    · cases h
  · obtain ⟨b', h1, rfl, h3, h4, h5⟩ := eqA_sound (P := P) (w := w) hT hx hy (eqV_eqA h)
    exact ⟨h1, h3, h4, h5⟩

theorem binV_sound {P : Program} {tab : Tab} {E : Env} {w : World} (hT : TabOK P tab) {T : TypeId} {op : BinOp} {s t : Operand} {x y : AV} {u v : Value} (hx : Rel E w x u) (hy : Rel E w y v) {ps : List Prop} {av : AV}
    (h : binV tab T op x y = some (ps, av)) (hp : AllP ps) : ∃ r, (do eqGuard op T s t u v; binOp op T u v : Sem Value).run P w = .ok r w ∧ Rel E w av r := by
  unfold binV at h
  split at h
  · obtain ⟨rfl, h1⟩ := hx
    obtain ⟨rfl, h2⟩ := hy
    split at h
    · exact shiftV_sound h1 h hp
    · split at h
      · rename_i hk; subst hk; exact intV_sound h1 h2 h hp
      · cases h
  · obtain ⟨rfl, h1⟩ := hx
    obtain ⟨rfl, h2⟩ := hy
    exact strV_sound h1 h2 h hp
  · split at h
    · split at h
      · rename_i b hb
        cases h
        obtain ⟨h1, h3, h4, h5⟩ := eqX_sound (P := P) (w := w) hT hx hy hb
        exact ⟨.bool b, by simp [h3, h4, h1], rfl⟩
      · cases h
    · split at h
      · rename_i b hb
        cases h
        obtain ⟨h1, h3, h4, h5⟩ := eqX_sound (P := P) (w := w) hT hx hy hb
        exact ⟨.bool (notB b), by simp [h3, h5, h1, notB], rfl⟩
      · cases h
    · cases h

theorem unV_sound {P : Program} {E : Env} {w : World} {op : UnOp} {x : AV} {u : Value} (hx : Rel E w x u) {ps : List Prop} {av : AV} (h : unV op x = some (ps, av)) :
    ∃ r, (Op.unary op u).run P w = .ok r w ∧ Rel E w av r := by
  unfold unV at h
  split at h
  · cases h
    cases hx; exact ⟨.bool _, rfl, rfl⟩
  · cases h
    obtain ⟨rfl, h1⟩ := hx
    exact ⟨.int _ _, rfl, rel_int (has_wrap _ _)⟩
  · cases h
    obtain ⟨rfl, h1⟩ := hx
    rename_i k n
    refine ⟨.int k (bxorW k n (allOnes k)), ?_, rel_int (has_wrap _ _)⟩
    simp only [Op.unary, Op.intBits, bxorW, allOnes]
    first | rfl | simp [bxorW, allOnes, BitVec.xor_comm]
  · cases h

theorem ovO_some {o : Option AV} {ps : List Prop} {v : AV} (h : ovO o = some (ps, v)) : o = some v := by
  cases o with
  | none => cases h
  | some x => cases h; rfl
theorem ovOp_some {p : Prop} {o : Option AV} {ps : List Prop} {v : AV} (h : ovOp p o = some (ps, v)) (hp : AllP ps) : o = some v ∧ p := by
  cases o with
  | none => cases h
  | some x => cases h; exact ⟨rfl, (allP_cons.1 hp).1⟩

theorem loadV_loadA {tab : Tab} {t : TypeId} {m : List Blk} {x : AV} {ps : List Prop} {v : AV} (h : loadV tab t m x = some (ps, v)) (hp : AllP ps) : loadA tab t m x (fun z => z = v) := by
  unfold loadV at h
  unfold loadA
  split at h
  · split at h
    · exact partV_partQ (ovO_some h)
    · cases h
  · exact partV_partQ (ovO_some h)
  · split at h
    · split at h
      · rename_i ht
        have := ovOp_some h hp
        simp only [ht, if_true]
        exact ⟨this.2, partV_partQ this.1⟩
      · cases h
    · cases h
  · cases h

theorem lenV_lenA {tab : Tab} {t : TypeId} {m : List Blk} {x : AV} {v : AV} (h : lenV tab t x m = some v) : lenA tab t x m (fun z => z = v) := by
  unfold lenV at h
  unfold lenA
  split at h
  · cases h; rfl
  · cases h; rfl
  · cases h; rfl
  · split at h
    · cases h; rfl
    · cases h
  · split at h
    · cases h; rfl
    · cases h
  · split at h
    · cases h; rfl
    · cases h
  · cases h

theorem indexV_indexA {tab : Tab} {t : TypeId} {m : List Blk} {x ix : AV} {ps : List Prop} {v : AV} (h : indexV tab t x ix m = some (ps, v)) (hp : AllP ps) : indexA tab t x ix m (fun z => z = v) := by
  unfold indexV at h
  unfold indexA
  split at h
  · split at h
    · split at h
      · cases h; exact ⟨(allP_cons.1 hp).1, rfl⟩
      · cases h
    · cases h
  · split at h
    · split at h
      · split at h
        · cases h; exact ⟨(allP_cons.1 hp).1, rfl⟩
        · cases h
      · cases h
    · cases h
  · split at h
    · split at h
      · split at h
        · cases h; exact ⟨(allP_cons.1 hp).1, rfl⟩
        · cases h
      · cases h
    · cases h
  · split at h
    · cases h
    · split at h
      · cases h; exact ⟨(allP_cons.1 hp).1, rfl⟩
      · cases h
  · split at h
    · cases h; exact ⟨(allP_cons.1 hp).1, rfl⟩
    · cases h
  · cases h

theorem minV_minA {x y v : AV} (h : minV x y = some v) : minA x y (fun z => z = v) := by
  unfold minV at h
  unfold minA
  split at h
  · split at h
    · rename_i hk; cases h; rw [if_pos hk]
    · cases h
  · cases h
theorem maxV_maxA {x y v : AV} (h : maxV x y = some v) : maxA x y (fun z => z = v) := by
  unfold maxV at h
  unfold maxA
  split at h
  · split at h
    · rename_i hk; cases h; rw [if_pos hk]
    · cases h
  · cases h
theorem foldV_foldA {f : AV → AV → Option AV} {g : AV → AV → (AV → Prop) → Prop} (hg : ∀ {x y v : AV} {K : AV → Prop}, f x y = some v → K v → g x y K) : ∀ {l : List AV} {x v : AV}, foldV f x l = some v → foldA g x l (fun z => z = v)
  | [], x, v, h => by cases h; rfl
  | y :: l, x, v, h => by
    simp only [foldV] at h
    split at h
    · rename_i z hz
      exact hg hz (foldV_foldA hg h)
    · cases h
theorem minA_of {x y v : AV} {K : AV → Prop} (h : minV x y = some v) (hk : K v) : minA x y K := by
  unfold minV at h
  unfold minA
  split at h
  · split at h
    · rename_i hk'; cases h; rw [if_pos hk']; exact hk
    · cases h
  · cases h
theorem maxA_of {x y v : AV} {K : AV → Prop} (h : maxV x y = some v) (hk : K v) : maxA x y K := by
  unfold maxV at h
  unfold maxA
  split at h
  · split at h
    · rename_i hk'; cases h; rw [if_pos hk']; exact hk
    · cases h
  · cases h

theorem fillE_sound {E : Env} {w : World} {n : Nat} : ∀ {parts : List (Nat × AV)} {vparts : List (Nat × Value)} {cells : List AV} {vs : List Value} {out : List AV},
    RelP E w parts vparts → RelL E w cells vs → fillE n cells parts = some out → ∃ us : List Value, Instr.fill (fun i => some (i * n, n)) vs.toArray vparts = some us.toArray ∧ RelL E w out us
  | [], vparts, cells, vs, out, hf, hr, h => by
    simp only [RelP] at hf
    subst hf
    simp only [fillE, Option.some.injEq] at h
    subst h
    exact ⟨vs, rfl, hr⟩
  | (i, a) :: parts, vparts, cells, vs, out, hf, hr, h => by
    obtain ⟨v, bs, rfl, hv, hf⟩ := hf
    simp only [fillE] at h
    cases hc : cells? a with
    | none => rw [hc] at h; cases h
    | some cs =>
      rw [hc] at h
      simp only at h
      split at h
      · rename_i hb1
        split at h
        · rename_i hb2
          have hb1 := beq_true hb1
          have hb2 := ble_true hb2
          obtain ⟨us, hus, hru⟩ := Rel.cells hv hc
          have hlen : us.length = n := by rw [hru.length, ← llen_eq, hb1]
          have hvl : vs.length = llen cells := by rw [hr.length, llen_eq]
          have hr' : RelL E w (lput cells (i * n) cs) ((us.zipIdx (i * n + 0)).foldl (fun vs (x : Value × Nat) => vs.set x.2 x.1) vs) := hr.put (i * n) hru
          obtain ⟨us', hfill, hrel⟩ := fillE_sound hf hr' h
          refine ⟨us', ?_, hrel⟩
          have hle : i * n + us.length ≤ vs.length := by rw [hlen, hvl, ← hb1]; rw [hb1] at hb2 ⊢; exact hb2
          simp only [Instr.fill, hus]
          rw [if_neg (by simp [hlen]; omega)]
          have := fill_put (i * n) us 0 vs
          rw [← Array.foldl_toList, Array.toList_zipIdx]
          rw [this]
          exact hfill
        · cases h
      · cases h

theorem kindOf_info {P : Program} {tab : Tab} (hT : TabOK P tab) {t : TypeId} {k : TK} (h : kindOf tab t = k) (hk : k ≠ .other) : ∃ ti, tlook tab t = some ti ∧ ti.k = k := by
  unfold kindOf at h
  cases ht : tlook tab t with
  | none => rw [ht] at h; exact absurd h.symm hk
  | some ti => rw [ht] at h; exact ⟨ti, rfl, h⟩

theorem isZ_some {E : Env} {w : World} {ρA : Opd} {ρ : Operand → Value} (hρ : ∀ x, Rel E w (ρA x) (ρ x)) {x : Option Operand} (h : isZ ρA x = true) : ∃ y k, x = some y ∧ ρ y = .int k 0 := by
  unfold isZ at h
  split at h
  · rename_i v
    split at h
    · rename_i k n hv
      have := of_decide_eq_true h; subst this
      have h1 := hρ (.const v)
      rw [hv] at h1
      exact ⟨_, k, rfl, h1.1⟩
    · cases h
  · cases h
section qval
variable {P : Program} {tab : Tab} {B : Base} {E : Env} {m : List Blk} {w : World} (hT : TabOK P tab) (hS : SatM B E m w)
include hT hS

/-- **The quiet operations, by their values.** -/
theorem bndV_run {ρA : Opd} {ρ : Operand → Value} (hρ : ∀ x, Rel E w (ρA x) (ρ x)) {d l : Int} {lo : Option Operand} (h : bndV ρA d lo = some l) :
    (lo = none ∧ l = d) ∨ ∃ x k, lo = some x ∧ ρ x = .int k l := by
  unfold bndV at h
  split at h
  · cases h; exact .inl ⟨rfl, rfl⟩
  · rename_i x
    split at h
    · rename_i k n hx
      cases h
      have := hρ x
      rw [hx] at this
      exact .inr ⟨x, k, rfl, this.1⟩
    · cases h
omit hT in
theorem own1_rel {a : AV} {v : Value} (h : Rel E w a v) : Rel E w (own1 m a) v := by
  cases a <;> simp only [own1] <;> try exact h
  case own i =>
    have hown : ∀ {i b}, E.bl i = some b → E.T b := by
      intro i b hb
      rcases (hS.old i b hb).1 with h | h
      · exact (hS.T b).2 (.inl (hS.FT b h))
      · exact (hS.T b).2 (.inr h)
    split
    · rename_i e t xs src hm
      have hs := row_sat hS hm
      obtain ⟨a, cap, hv, hnil⟩ := own_len hs
      obtain ⟨rfl, _⟩ := h
      obtain ⟨hl, cells, hown', hbl, hd⟩ := hs
      rw [hv]
      refine ⟨a, cap, rfl, ⟨hl, ?_⟩, ?_⟩
      · rcases hown'.2 with ⟨h1, h2⟩ | ⟨g, c, cur, h1, _, _, h2, _⟩
        · rw [h2]; exact Nat.zero_le _
        · rw [h1] at hv; cases hv; exact h2
      rcases hnil with rfl | ⟨b, hb, rfl⟩
      · exact .inl rfl
      · refine .inr ⟨b, 0, rfl, ⟨hown hb, fun j hj => by rw [hS.inj j i b hj hb, uniN_eq]; exact mem_uniL (by simp)⟩, fun k x hk => ?_⟩
        have hdk := hd.get k x hk
        refine ⟨_, hdk.length, ?_, hdk.keep fun b' hb' _ => ⟨Env.ok_mono (fun j hj => by rw [uniN_eq]; exact mem_uniR hj) hb', fun _ _ h => h⟩⟩
        intro j v hj
        have hj' : cells[k * nc t + j]? = some v := by
          rw [List.getElem?_take] at hj
          split at hj
          · simpa [List.getElem?_drop] using hj
          · cases hj
        have := hown'.cells (g := b) (by rw [← hbl, hb]) _ v hj'
        simpa [addr_add] using this
    · exact h
omit hT in
theorem own1q_rel {q : Bool} {a : AV} {v : Value} (h : Rel E w a v) : Rel E w (own1q q m a) v := by
  cases q
  · exact h
  · exact own1_rel hS h
omit hT hS in
theorem sliced_zero {a : Option Addr} {n c k : Nat} : sliced a 0 n c k = .slice a n c := by
  have h0 : ∀ a : Option Addr, a.map (fun x => x.add (0 * k)) = a := by
    intro a
    cases a with
    | none => rfl
    | some ad => simp [Addr.add]
  unfold sliced
  rw [h0]
  simp
omit hT hS in
theorem drep_sliced {S : Nat → Prop} {T : Ty} {xs : List (den T)} {a : Option Addr} {cap : Nat} (h : DRep S w (.list T) xs [.slice a xs.length cap]) {l u : Int} (p1 : 0 ≤ l) (p2 : l ≤ u) (p3 : u ≤ (xs.length : Int)) :
    DRep S w (.list T) (subL xs l u) [sliced a l.toNat u.toNat cap (nc T)] := by
  obtain ⟨a', cap', hv, hlen, hr⟩ := h
  simp only [List.cons.injEq, and_true] at hv
  cases hv
  have hsub : (subL xs l u).length = u.toNat - l.toNat := by
    unfold subL; simp only [List.length_drop, List.length_take]; omega
  unfold sliced
  refine ⟨if cap = l.toNat then a else a.map (·.add (l.toNat * nc T)), cap - l.toNat, by rw [hsub], ⟨by rw [hsub]; omega, by rw [hsub]; omega⟩, ?_⟩
  by_cases hnil : subL xs l u = []
  · exact .inl hnil
  · have hpos : 0 < (subL xs l u).length := List.length_pos_iff.2 hnil
    rw [hsub] at hpos
    rcases hr with rfl | ⟨b, off, rfl, hok, hr⟩
    · simp only [List.length_nil] at p3; omega
    · refine .inr ⟨b, off + l.toNat * nc T, ?_, hok, fun i y hi => ?_⟩
      · rw [if_neg (by omega), Option.map_some, addr_add]
      · have hi' : xs[l.toNat + i]? = some y := by
          unfold subL at hi
          rw [List.getElem?_drop, List.getElem?_take] at hi
          split at hi
          · exact hi
          · cases hi
        obtain ⟨cs, c1, c2, c3⟩ := hr _ y hi'
        exact ⟨cs, c1, by rw [Nat.add_mul, ← Nat.add_assoc] at c2; exact c2, c3⟩
omit hT in
theorem own_view {i : Nat} {e : TypeId} {t : Ty} {xs : List (den t)} {src : List Nat} (hm : mget m i = .row e t xs src) : DRep (E.ok (uniN [i] src)) w (.list t) xs [E.sl i] := by
  obtain ⟨a, cap, hv, _⟩ := own_len (row_sat hS hm)
  have := own1_rel (m := m) hS (a := .own i) (v := E.sl i) ⟨rfl, a, _, cap, hv⟩
  simp only [own1, hm] at this
  exact this
theorem sliceU_sound {t : TypeId} {x : Operand} {lo hi mx : Option Operand} {ρA : Opd} {ρ : Operand → Value} (hρ : ∀ x, Rel E w (ρA x) (ρ x)) {ps : List Prop} {av : AV} (h : sliceU tab t m (ρA x) ρA lo hi mx = some (ps, av)) (hp : AllP ps) :
    ∃ v, (do pure (Next.value (← Instr.sliceAt t (ρ x) (lo.map ρ) (hi.map ρ) (mx.map ρ))) : Sem Next).run P w = .ok (.value v) w ∧ Rel E w av v := by
  have hxv := hρ x
  unfold sliceU at h
  split at h
  · rename_i i hx
    rw [hx] at hxv
    split at h
    · rename_i e e' T xs src hmb hk hm
      split at h
      · rename_i hd0 hs
        split at h
        · rename_i n hn
          cases h
          obtain ⟨k, hnv⟩ : ∃ k, ρ hd0 = .int k n := by
            rcases bndV_run hT hS hρ hn with ⟨h1, _⟩ | ⟨x2, k2, h1, g2⟩
            · cases h1
            · cases h1; exact ⟨k2, g2⟩
          obtain ⟨p1, hp⟩ := allP_cons.1 hp
          have p2 := (allP_cons.1 hp).1
          unfold leI at p1 p2
          have hlI : lenI xs = (xs.length : Int) := rfl
          rw [hlI] at p2
          have hs' : sizeT tab e = some (nc T) := by
            cases hse : sizeT tab e with
            | none => rw [hse] at hs; simp [eqO] at hs
            | some n => rw [hse] at hs; rw [beq_true hs]
          have hsz := sizeT_ok (P := P) (w := w) hT hs'
          obtain ⟨d, hd, hkd⟩ := kind_ok hT hk (by simp)
          cases d <;> simp only [tkOf, reduceCtorEq, TK.slice.injEq] at hkd
          rw [hkd] at hd
          have het : P.elem t = e := by simp [Program.elem, hd]
          have hrow := row_sat hS hm
          obtain ⟨a, cap, hv, hnil⟩ := own_len hrow
          obtain ⟨_, cells, hown, _, _⟩ := hrow
          have hcap : xs.length ≤ cap := by
            rcases hown.2 with ⟨h1, h2⟩ | ⟨g, c, cur, h1, _, _, h2, _⟩
            · rw [h2]; exact Nat.zero_le _
            · rw [h1] at hv; cases hv; exact h2
          have hxv := hxv.1
          have hb : (Instr.sliceBounds true xs.length cap none (some (ρ hd0)) none).run P w = .ok (0, n.toNat, cap) w := by
            rw [hnv]; simp [Instr.sliceBounds, run_sliceBound w k n cap _ (by omega) (by omega)]
          have hsl : (Instr.slice t (.slice a xs.length cap) none (some (ρ hd0)) none).run P w = .ok (sliced a 0 n.toNat cap (nc T)) w := by
            rw [run_slice_any w t a xs.length cap (by rw [het]; exact hd), hb]
            simp only [Result.andThen_ok, het, hsz]
          have hsd : sliced a 0 n.toNat cap (nc T) = .slice a n.toNat cap := by
            have h0 : ∀ a : Option Addr, a.map (fun x => x.add (0 * nc T)) = a := by
              intro a
              cases a with
              | none => rfl
              | some ad => simp [Addr.add]
            unfold sliced
            rw [h0]
            simp
          refine ⟨.slice a n.toNat cap, ?_, a, xs.length, cap, hv, rfl, p1, by omega⟩
          simp only [hxv, hv, Option.map_none, Option.map_some, Sem.run_bind, run_sliceAt_slice w t _ _ _ _ (by rw [het]; exact hd), hsl, hsd, Result.andThen_ok, Sem.run_pure]
        · cases h
      · cases h
    · cases h
  · rename_i i n0 hx
    rw [hx] at hxv
    split at h
    · rename_i e e' T xs src hk hm
      split at h
      · rename_i hd0 hs
        split at h
        · rename_i l u hl hn
          cases h
          obtain ⟨k, hnv⟩ : ∃ k, ρ hd0 = .int k u := by
            rcases bndV_run hT hS hρ hn with ⟨h1, _⟩ | ⟨x2, k2, h1, g2⟩
            · cases h1
            · cases h1; exact ⟨k2, g2⟩
          obtain ⟨p1, hp⟩ := allP_cons.1 hp
          obtain ⟨p2, hp⟩ := allP_cons.1 hp
          have p3 := (allP_cons.1 hp).1
          unfold leI at p1 p2 p3
          have hlI : lenI xs = (xs.length : Int) := rfl
          rw [hlI] at p3
          have hs' : sizeT tab e = some (nc T) := by
            cases hse : sizeT tab e with
            | none => rw [hse] at hs; simp [eqO] at hs
            | some n => rw [hse] at hs; rw [beq_true hs]
          have hsz := sizeT_ok (P := P) (w := w) hT hs'
          obtain ⟨d, hd, hkd⟩ := kind_ok hT hk (by simp)
          cases d <;> simp only [tkOf, reduceCtorEq, TK.slice.injEq] at hkd
          rw [hkd] at hd
          have het : P.elem t = e := by simp [Program.elem, hd]
          have hview := own_view (m := m) hS hm
          have hrow := row_sat hS hm
          obtain ⟨a, cap, hv, hnil⟩ := own_len hrow
          obtain ⟨_, cells, hown, _, _⟩ := hrow
          have hcap : xs.length ≤ cap := by
            rcases hown.2 with ⟨h1, h2⟩ | ⟨g, c, cur, h1, _, _, h2, _⟩
            · rw [h2]; exact Nat.zero_le _
            · rw [h1] at hv; cases hv; exact h2
          obtain ⟨a', l', c', he, hxv, h0, hle⟩ := hxv
          rw [hv] at he
          cases he
          rw [hv] at hview
          have hb : (Instr.sliceBounds true n0.toNat cap (lo.map ρ) (some (ρ hd0)) none).run P w = .ok (l.toNat, u.toNat, cap) w := by
            rw [hnv]
            rcases bndV_run hT hS hρ hl with ⟨rfl, rfl⟩ | ⟨x1, k1, rfl, g1⟩
            · simp [Instr.sliceBounds, run_sliceBound w k u cap _ (by omega) (by omega)]
            · simp [Instr.sliceBounds, g1, run_sliceBound w k u cap _ (by omega) (by omega), run_sliceBound w k1 l u.toNat _ p1 (by omega)]
          have hsl : (Instr.slice t (.slice a n0.toNat cap) (lo.map ρ) (some (ρ hd0)) none).run P w = .ok (sliced a l.toNat u.toNat cap (nc T)) w := by
            rw [run_slice_any w t a n0.toNat cap (by rw [het]; exact hd), hb]
            simp only [Result.andThen_ok, het, hsz]
          refine ⟨sliced a l.toNat u.toNat cap (nc T), ?_, drep_sliced hview p1 p2 p3⟩
          simp only [hxv, Option.map_none, Option.map_some, Sem.run_bind, run_sliceAt_slice w t _ _ _ _ (by rw [het]; exact hd), hsl, Result.andThen_ok, Sem.run_pure]
        · cases h
      · cases h
    · cases h
  · cases h
theorem qval_sound {o : Oper} {ρA : Opd} {ρ : Operand → Value} (hρ : ∀ x, Rel E w (ρA x) (ρ x)) {ps : List Prop} {av : AV} (h : qval tab o ρA m = some (ps, av)) (hp : AllP ps) :
    ∃ v, (execOp ρ o).run P w = .ok (.value v) w ∧ Rel E w av v := by
  have old : qopOld tab o ρA m (fun z => z = av) → ∃ v, (execOp ρ o).run P w = .ok (.value v) w ∧ Rel E w av v := fun h => by
    obtain ⟨v, av', h1, h2, rfl⟩ := qopOld_sound hT hS hρ h
    exact ⟨v, h1, h2⟩
  have wrap : ∀ {s : Sem Value}, (∃ r, s.run P w = .ok r w ∧ Rel E w av r) → ∃ v, (do pure (Next.value (← s)) : Sem Next).run P w = .ok (.value v) w ∧ Rel E w av v := by
    rintro s ⟨r, h1, h2⟩
    exact ⟨r, by simp [h1], h2⟩
  unfold qval at h
  unfold qopOld at old
  unfold execOp at old ⊢
  cases hop : o.op <;> rw [hop] at h <;> (try simp only [hop] at old ⊢) <;> (try simp only at h) <;> try (exact absurd h (by simp))
  case move x => obtain ⟨rfl, rfl⟩ := need_ov h; exact old rfl
  case assign x => obtain ⟨rfl, rfl⟩ := need_ov h; exact old rfl
  case pick c a b =>
    have hc := hρ c
    cases hc' : ρA c <;> rw [hc'] at h hc <;> simp only [reduceCtorEq] at h
    rename_i cb
    simp only [Rel] at hc
    refine ⟨if cb then ρ a else ρ b, by simp [hc, asBool], pickVV_sound h hp (fun hb => ?_) (fun hb => ?_)⟩
    · subst hb; exact hρ a
    · subst hb; exact hρ b
  case build t parts =>
    cases ht : tlook tab t with
    | none => rw [ht] at h; cases h
    | some ti =>
      rw [ht] at h old
      simp only at h old
      cases hk : ti.k <;> rw [hk] at h old <;> simp only [reduceCtorEq] at h
      case struct fs =>
        apply old
        repeat' (first | (split at h) | (cases h))
        all_goals simp_all [ov]
      case arr len e =>
        split at h
        · rename_i z n hz hn
          split at h
          · rename_i cells hfi
            obtain ⟨rfl, rfl⟩ := need_ov h
            have he := hT t ti ht
            obtain ⟨d, hd, hkd⟩ := he.kind
            rw [hk] at hkd
            cases d <;> simp only [tkOf, reduceCtorEq, TK.arr.injEq] at hkd
            obtain ⟨rfl, rfl⟩ := hkd
            obtain ⟨vs, hvs, hrz⟩ := Rel.cells (rel_ofV E w ti.zero) hz
            obtain ⟨us, hfill, hrel⟩ := fillE_sound (relP_evp hρ parts.toList) hrz hfi
            apply wrap
            refine ⟨.agg us.toArray, ?_, ⟨us, rfl, hrel⟩⟩
            have hparts : (Array.map (fun x : Nat × Operand => (x.1, ρ x.2)) parts).toList = parts.toList.map fun x => (x.1, ρ x.2) := by simp
            simp only [Instr.build, Sem.run_bind, he.zeroValue w, Result.andThen_ok, Go.underlying, run_program, hd, Sem.run_pure, sizeT_ok hT hn, hvs, hparts, hfill]
          · cases h
        · cases h
  case index t x ix =>
    have hx := hρ x
    have hi := hρ ix
    apply wrap
    unfold idxV at h
    split at h
    · rename_i n e cells k i hk hxv hiv
      rw [hxv] at hx
      rw [hiv] at hi
      obtain ⟨d, hd, hkd⟩ := kind_ok hT hk (by simp)
      cases d <;> simp only [tkOf, reduceCtorEq, TK.arr.injEq] at hkd
      obtain ⟨rfl, rfl⟩ := hkd
      split at h
      · rename_i m hm
        have hpv := ovOp_some h hp
        obtain ⟨vs, hv, hr⟩ := hx
        obtain ⟨hiv', _⟩ := hi
        obtain ⟨r, av', h1, h2, rfl⟩ := part_part (P := P) hT (hr.drop (i.toNat * m)) (partV_partQ hpv.1)
        refine ⟨r, ?_, h2⟩
        have hin := hpv.2
        simp only [inI, Int.ofNat_eq_natCast] at hin
        simp [Instr.index, asIntOf, hiv', Go.underlying, hd, hv, hin.1, hin.2, sizeT_ok hT hm, h1]
      · cases h
    · rename_i s k i hk hxv hiv
      rw [hxv] at hx
      rw [hiv] at hi
      obtain ⟨d, hd, hkd⟩ := kind_ok hT hk (by simp)
      cases d <;> simp only [tkOf, reduceCtorEq] at hkd
      cases h
      obtain ⟨hv, hl⟩ := hx
      obtain ⟨hiv', _⟩ := hi
      have hin := (allP_cons.1 hp).1
      simp only [inI, lenI] at hin
      have hlt : i.toNat < s.length := by omega
      refine ⟨.int .u8 (byteAt s i), ?_, rel_int ?_⟩
      · have hg : (⟨s.toArray⟩ : ByteArray)[i.toNat]? = some s[i.toNat] := by
          rw [getElem?_pos _ _ (by simpa [ByteArray.size] using hlt)]
          rfl
        simp [Instr.index, asIntOf, hiv', Go.underlying, hd, hv, hin.1, hg, byteAt, List.getD, List.getElem?_eq_getElem hlt]
      · unfold byteAt IntKind.has
        have h1 : IntKind.u8.min = 0 := by decide
        have h2 : IntKind.u8.max = 255 := by decide
        have h3 := (s.getD i.toNat 0).toNat_lt
        rw [h1, h2]; omega
    · cases h
  case slice t x lo hi mx =>
    have hor : sliceU tab t m (ρA x) ρA lo hi mx = some (ps, av) ∨ sliceV tab t (own1q (quiet o) m (ρA x)) ρA lo hi mx = some (ps, av) := by
      cases hU : sliceU tab t m (ρA x) ρA lo hi mx with
      | some r => rw [hU] at h; exact .inl h
      | none => rw [hU] at h; exact .inr h
    clear h
    rcases hor with hU | h
    · exact sliceU_sound hT hS hρ hU hp
    unfold sliceV at h
    split at h
    · rename_i s hk hx
      split at h
      · rename_i l u h1 h2
        cases h
        obtain ⟨p1, hp⟩ := allP_cons.1 hp
        obtain ⟨p2, hp⟩ := allP_cons.1 hp
        have p3 := (allP_cons.1 hp).1
        unfold leI at p1 p2 p3
        have hxv := own1q_rel (q := quiet o) hS (hρ x)
        rw [hx] at hxv
        obtain ⟨hxv, hlen⟩ := hxv
        obtain ⟨d, hd, hkd⟩ := kind_ok hT hk (by simp)
        cases d <;> simp only [tkOf, reduceCtorEq] at hkd
        have hsz : (⟨s.toArray⟩ : ByteArray).size = s.length := by simp [ByteArray.size]
        have hlI : lenI s = (s.length : Int) := rfl
        rw [hlI] at p3
        have hext : (⟨s.toArray⟩ : ByteArray).extract l.toNat u.toNat = ⟨(subL s l u).toArray⟩ := by
          apply ByteArray.ext
          simp only [ByteArray.data_extract, subL]
          apply Array.ext'
          simp [List.extract_eq_take_drop, List.drop_take]
        refine ⟨.string ⟨(subL s l u).toArray⟩, ?_, rfl, by unfold subL; simp only [List.length_drop, List.length_take]; omega⟩
        have hb : (Instr.sliceBounds false s.length s.length (lo.map ρ) (hi.map ρ) none).run P w = .ok (l.toNat, u.toNat, s.length) w := by
          rcases bndV_run hT hS hρ h1 with ⟨rfl, rfl⟩ | ⟨x1, k1, rfl, g1⟩ <;> rcases bndV_run hT hS hρ h2 with ⟨rfl, hu⟩ | ⟨x2, k2, rfl, g2⟩
          · rw [hu, hlI]; simp [Instr.sliceBounds]
          · simp [Instr.sliceBounds, g2, run_sliceBound w k2 u s.length _ (by omega) p3]
          · rw [hu, hlI] at p2 ⊢; simp [Instr.sliceBounds, g1, run_sliceBound w k1 l s.length _ p1 p2]
          · simp [Instr.sliceBounds, g1, g2, run_sliceBound w k2 u s.length _ (by omega) p3, run_sliceBound w k1 l u.toNat _ p1 (by omega)]
        have hsl : (Instr.slice t (.string ⟨s.toArray⟩) (lo.map ρ) (hi.map ρ) none).run P w = .ok (.string ⟨(subL s l u).toArray⟩) w := by
          simp only [Instr.slice, Sem.run_bind, run_underlying hd, Result.andThen_ok]
          simp [hsz, hb, hext]
        simp only [hxv, Option.map_none, Sem.run_bind, run_sliceAt_string w t _ _ _ _ hd, hsl, Result.andThen_ok, Sem.run_pure]
      · cases h
    · rename_i e src T xs hk hx
      have hxv := own1q_rel (q := quiet o) hS (hρ x)
      rw [hx] at hxv
      obtain ⟨a, cap, hv, hlen, hr⟩ := hxv
      simp only [List.cons.injEq, and_true] at hv
      obtain ⟨d, hd, hkd⟩ := kind_ok hT hk (by simp)
      cases d <;> simp only [tkOf, reduceCtorEq, TK.slice.injEq] at hkd
      rw [hkd] at hd
      have het : P.elem t = e := by simp [Program.elem, hd]
      split at h
      · rename_i hs
        have hs' : sizeT tab e = some (nc T) := by
          cases hse : sizeT tab e with
          | none => rw [hse] at hs; simp [eqO] at hs
          | some n => rw [hse] at hs; rw [beq_true hs]
        have hsz := sizeT_ok (P := P) (w := w) hT hs'
        split at h
        · rename_i l u h1 h2
          cases h
          obtain ⟨p1, hp⟩ := allP_cons.1 hp
          obtain ⟨p2, hp⟩ := allP_cons.1 hp
          have p3 := (allP_cons.1 hp).1
          unfold leI at p1 p2 p3
          have hlI : lenI xs = (xs.length : Int) := rfl
          rw [hlI] at p3
          have hb : (Instr.sliceBounds true xs.length cap (lo.map ρ) (hi.map ρ) none).run P w = .ok (l.toNat, u.toNat, cap) w := by
            rcases bndV_run hT hS hρ h1 with ⟨rfl, rfl⟩ | ⟨x1, k1, rfl, g1⟩ <;> rcases bndV_run hT hS hρ h2 with ⟨rfl, hu⟩ | ⟨x2, k2, rfl, g2⟩
            · rw [hu, hlI]; simp [Instr.sliceBounds]
            · simp [Instr.sliceBounds, g2, run_sliceBound w k2 u cap _ (by omega) (by omega)]
            · rw [hu, hlI] at p2 ⊢; simp [Instr.sliceBounds, g1, run_sliceBound w k1 l xs.length _ p1 p2]
            · simp [Instr.sliceBounds, g1, g2, run_sliceBound w k2 u cap _ (by omega) (by omega), run_sliceBound w k1 l u.toNat _ p1 (by omega)]
          have hsl : (Instr.slice t (.slice a xs.length cap) (lo.map ρ) (hi.map ρ) none).run P w = .ok (sliced a l.toNat u.toNat cap (nc T)) w := by
            rw [run_slice_any w t a xs.length cap (by rw [het]; exact hd), hb]
            simp only [Result.andThen_ok, het, hsz]
          refine ⟨sliced a l.toNat u.toNat cap (nc T), ?_, ?_⟩
          · simp only [hv, Option.map_none, Sem.run_bind, run_sliceAt_slice w t _ _ _ _ (by rw [het]; exact hd), hsl, Result.andThen_ok, Sem.run_pure]
          · have hsub : (subL xs l u).length = u.toNat - l.toNat := by
              unfold subL; simp only [List.length_drop, List.length_take]; omega
            unfold sliced
            refine ⟨if cap = l.toNat then a else a.map (·.add (l.toNat * nc T)), cap - l.toNat, by rw [hsub], ⟨by rw [hsub]; omega, by rw [hsub]; omega⟩, ?_⟩
            by_cases hnil : subL xs l u = []
            · exact .inl hnil
            · have hpos : 0 < (subL xs l u).length := List.length_pos_iff.2 hnil
              rw [hsub] at hpos
              rcases hr with rfl | ⟨b, off, rfl, hok, hr⟩
              · simp only [List.length_nil] at p3; omega
              · refine .inr ⟨b, off + l.toNat * nc T, ?_, hok, fun i y hi => ?_⟩
                · rw [if_neg (by omega), Option.map_some, addr_add]
                · have hi' : xs[l.toNat + i]? = some y := by
                    unfold subL at hi
                    rw [List.getElem?_drop, List.getElem?_take] at hi
                    split at hi
                    · exact hi
                    · cases hi
                  obtain ⟨cs, c1, c2, c3⟩ := hr _ y hi'
                  exact ⟨cs, c1, by rw [Nat.add_mul, ← Nat.add_assoc] at c2; exact c2, c3⟩
        · cases h
      · rename_i y hs
        have hs' : sizeT tab e = some (nc T) := by
          cases hse : sizeT tab e with
          | none => rw [hse] at hs; simp [eqO] at hs
          | some n => rw [hse] at hs; rw [beq_true hs]
        have hsz := sizeT_ok (P := P) (w := w) hT hs'
        split at h
        · rename_i hc
          obtain ⟨rfl, rfl⟩ := need_ov h
          have hc1 := andb_split hc
          have hc2 := andb_split hc1.2
          obtain ⟨y1, k1, rfl, e1⟩ := isZ_some hρ hc2.1
          obtain ⟨y2, k2, hk2, e2⟩ := isZ_some hρ hc2.2
          cases hk2
          have hlo : lo = none := by cases lo with | none => rfl | some _ => simp [nop] at hc1
          subst hlo
          have hsl : (Instr.slice t (.slice a xs.length cap) none (some (.int k1 0)) (some (.int k2 0))).run P w = .ok (sliced a 0 0 0 (nc T)) w := by
            rw [run_slice_hm w t a xs.length cap (by rw [het]; exact hd) k1 k2 0 0 (by omega) (by omega) (by omega)]
            simp [het, hsz]
          refine ⟨sliced a 0 0 0 (nc T), ?_, ?_⟩
          · simp only [hv, Option.map_none, Option.map_some, e1, e2, Sem.run_bind, run_sliceAt_slice w t _ _ _ _ (by rw [het]; exact hd), hsl, Result.andThen_ok, Sem.run_pure]
          · simp [sliced, Rel]
        · cases h
      · cases h
    · rename_i e b hk hx
      have hxv := own1q_rel (q := quiet o) hS (hρ x)
      rw [hx] at hxv
      obtain ⟨a, hv, hab⟩ := hxv
      obtain ⟨d, hd, hkd⟩ := kind_ok hT hk (by simp)
      cases d <;> simp only [tkOf, reduceCtorEq, TK.slice.injEq] at hkd
      rw [hkd] at hd
      have het : P.elem t = e := by simp [Program.elem, hd]
      split at h
      · rename_i n hs' hc
        have hsz := sizeT_ok (P := P) (w := w) hT hs'
        obtain ⟨rfl, rfl⟩ := need_ov h
        have hc1 := andb_split hc
        have hc2 := andb_split hc1.2
        obtain ⟨y1, k1, rfl, e1⟩ := isZ_some hρ hc2.1
        have hlo : lo = none := by cases lo with | none => rfl | some _ => simp [nop] at hc1
        subst hlo
        have hm : mx = none ∨ ∃ y2 k2, mx = some y2 ∧ ρ y2 = .int k2 0 := by
          cases mx with
          | none => exact .inl rfl
          | some y => exact .inr (isZ_some hρ (by simpa [nop, orb] using hc2.2))
        rcases hm with rfl | ⟨y2, k2, rfl, e2⟩
        · have hsl : (Instr.slice t (.slice a 0 0) none (some (.int k1 0)) none).run P w = .ok (sliced a 0 0 0 n) w := by
            rw [run_slice_h w t a 0 0 (by rw [het]; exact hd) k1 0 (by omega) (by omega)]
            simp [het, hsz]
          refine ⟨.slice a 0 0, ?_, a, rfl, hab⟩
          simp only [hv, Option.map_none, Option.map_some, e1, Sem.run_bind, run_sliceAt_slice w t _ _ _ _ (by rw [het]; exact hd), hsl, Result.andThen_ok, Sem.run_pure]
          simp [sliced]
        · have hsl : (Instr.slice t (.slice a 0 0) none (some (.int k1 0)) (some (.int k2 0))).run P w = .ok (sliced a 0 0 0 n) w := by
            rw [run_slice_hm w t a 0 0 (by rw [het]; exact hd) k1 k2 0 0 (by omega) (by omega) (by omega)]
            simp [het, hsz]
          refine ⟨.slice a 0 0, ?_, a, rfl, hab⟩
          simp only [hv, Option.map_none, Option.map_some, e1, e2, Sem.run_bind, run_sliceAt_slice w t _ _ _ _ (by rw [het]; exact hd), hsl, Result.andThen_ok, Sem.run_pure]
          simp [sliced]
      · rename_i n hs' hc
        have hsz := sizeT_ok (P := P) (w := w) hT hs'
        split at h
        · rename_i l u h1 h2
          cases h
          obtain ⟨p1, hp⟩ := allP_cons.1 hp
          obtain ⟨p2, hp⟩ := allP_cons.1 hp
          have p3 := (allP_cons.1 hp).1
          unfold leI at p1 p2 p3
          have l0 : l = 0 := by omega
          have u0 : u = 0 := by omega
          subst l0 u0
          have hb : (Instr.sliceBounds true 0 0 (lo.map ρ) (hi.map ρ) none).run P w = .ok (0, 0, 0) w := by
            rcases bndV_run hT hS hρ h1 with ⟨rfl, _⟩ | ⟨x1, k1, rfl, g1⟩ <;> rcases bndV_run hT hS hρ h2 with ⟨rfl, _⟩ | ⟨x2, k2, rfl, g2⟩
            · simp [Instr.sliceBounds]
            · simp [Instr.sliceBounds, g2, run_sliceBound w k2 0 0 _ (by omega) (by omega)]
            · simp [Instr.sliceBounds, g1, run_sliceBound w k1 0 0 _ (by omega) (by omega)]
            · simp [Instr.sliceBounds, g1, g2, run_sliceBound w k2 0 0 _ (by omega) (by omega), run_sliceBound w k1 0 0 _ (by omega) (by omega)]
          have hsl : (Instr.slice t (.slice a 0 0) (lo.map ρ) (hi.map ρ) none).run P w = .ok (sliced a 0 0 0 n) w := by
            rw [run_slice_any w t a 0 0 (by rw [het]; exact hd), hb]
            simp only [Result.andThen_ok, het, hsz]
          refine ⟨.slice a 0 0, ?_, a, rfl, hab⟩
          simp only [hv, Option.map_none, Sem.run_bind, run_sliceAt_slice w t _ _ _ _ (by rw [het]; exact hd), hsl, Result.andThen_ok, Sem.run_pure]
          simp [sliced]
        · cases h
      · cases h
    · cases h
  case convert src dst x =>
    have hx := hρ x
    apply wrap
    unfold convV at h
    split at h
    · rename_i k0 k k' n hk1 hk2 hxv
      rw [hxv] at hx
      cases h
      obtain ⟨d1, hd1, hkd1⟩ := kind_ok hT hk1 (by simp)
      obtain ⟨d2, hd2, hkd2⟩ := kind_ok hT hk2 (by simp)
      cases d1 <;> simp only [tkOf, reduceCtorEq, TK.int.injEq] at hkd1
      cases d2 <;> simp only [tkOf, reduceCtorEq, TK.int.injEq] at hkd2
      subst hkd1 hkd2
      obtain ⟨hv, _⟩ := hx
      exact ⟨.int _ (wrI _ n), by simp [convert, Go.underlying, hd1, hd2, hv, Conv.intToInt, wrI], rel_int (has_wrap _ _)⟩
    · rename_i s hk1 hk2 hxv
      rw [hxv] at hx
      cases h
      obtain ⟨d1, hd1, hkd1⟩ := kind_ok hT hk1 (by simp)
      obtain ⟨d2, hd2, hkd2⟩ := kind_ok hT hk2 (by simp)
      cases d1 <;> simp only [tkOf, reduceCtorEq] at hkd1
      cases d2 <;> simp only [tkOf, reduceCtorEq] at hkd2
      obtain ⟨hv, hl⟩ := hx
      exact ⟨_, by simp [convert, Go.underlying, hd1, hd2, hv], ⟨rfl, hl⟩⟩
    · cases h
  case load t a => exact old (loadV_loadA h hp)
  case nilCheck x =>
    apply old
    split at h
    · simp_all [ov]
    · cases h
  case binOp op T x y yT => exact wrap (binV_sound hT (hρ x) (hρ y) h hp)
  case unOp op T x => exact wrap (unV_sound (hρ x) h)
  case fieldAddr s x f =>
    apply old
    repeat' (first | (split at h) | (cases h))
    all_goals simp_all [ov]
  case field s x f =>
    apply old
    split at h
    · rename_i ti ht
      split at h
      · rename_i fs hk
        split at h
        · rename_i t o' hf
          split at h
          · rename_i cells hc
            exact partV_partQ (ovO_some h)
          · cases h
        · cases h
      · cases h
    · cases h
  case indexAddr t x ix => exact old (indexV_indexA h hp)
  case extract t i =>
    apply old
    split at h
    · split at h
      · rename_i hb; exact (need_ov h).2
      · cases h
    · cases h
  case makeFunc f a b => obtain ⟨rfl, rfl⟩ := need_ov h; exact old rfl
  case call c =>
    apply old
    split at h
    · split at h
      · split at h
        · exact lenV_lenA (ovO_some h)
        · cases h
      · split at h
        · rw [ovO_some h]
        · cases h
      · exact foldV_foldA (f := minV) (g := minA) (fun h k => minA_of h k) (ovO_some h)
      · exact foldV_foldA (f := maxV) (g := maxA) (fun h k => maxA_of h k) (ovO_some h)
      · cases h
    · cases h
omit hT hS in
theorem splitI_spec {i : Int} {K : Nat → Prop} : ∀ {n a : Nat}, splitI i K a n → ∃ b, a ≤ b ∧ b < a + n ∧ i = (b : Int) ∧ K b
  | 0, a, h => h.elim
  | n + 1, a, h => by
    have h := ifB_iff.1 h
    by_cases hi : i = (a : Int)
    · exact ⟨a, Nat.le_refl _, by omega, hi, h.1 (by simp [eqB, hi])⟩
    · obtain ⟨b, h1, h2, h3, h4⟩ := splitI_spec (h.2 (by simp [eqB, hi]))
      exact ⟨b, by omega, by omega, h3, h4⟩
theorem splitQ_sound {o : Oper} {t : TypeId} {x ix : Operand} {ρA : Opd} {ρ : Operand → Value} (hρ : ∀ x, Rel E w (ρA x) (ρ x)) {K : AV → Prop} (hop : o.op = .indexAddr t x ix) (h : splitQ tab o ρA K) :
    ∃ r av, (Instr.indexAt t (ρ x) (ρ ix)).run P w = .ok r w ∧ Rel E w av r ∧ K av := by
  unfold splitQ at h
  rw [hop] at h
  simp only at h
  split at h
  · rename_i e j off n cap k i hk hx hix
    split at h
    · rename_i sz hs
      obtain ⟨b, h1, h2, rfl, h4⟩ := splitI_spec h
      obtain ⟨r, av, g1, g2, g3⟩ := indexA_sound hT hS (hρ x) (hρ ix) (t := t) (K := fun z => z = .ptr j (off + b * sz)) (by
        unfold indexA
        rw [hk, hx, hix]
        simp only [hs]
        exact ⟨⟨by omega, by simp only [Int.ofNat_eq_natCast]; omega⟩, by simp⟩)
      exact ⟨r, av, g1, g2, by rw [g3]; exact h4⟩
    · exact h.elim
  · exact h.elim

theorem qop_sound {o : Oper} {ρA : Opd} {ρ : Operand → Value} (hρ : ∀ x, Rel E w (ρA x) (ρ x)) {K : AV → Prop} (h : qop tab o ρA m K) :
    ∃ v av, (execOp ρ o).run P w = .ok (.value v) w ∧ Rel E w av v ∧ K av := by
  unfold qop at h
  split at h
  · rename_i ps v hq
    have h := needL_iff.1 h
    obtain ⟨u, h1, h2⟩ := qval_sound hT hS hρ hq h.1
    exact ⟨u, v, h1, h2, h.2⟩
  · split at h
    · rename_i c a b hop
      have hc := hρ c
      cases hc' : ρA c <;> rw [hc'] at h hc <;> simp only at h <;> try exact h.elim
      rename_i cb
      simp only [Rel] at hc
      unfold execOp
      simp only [hop]
      cases cb
      · exact ⟨_, _, by simp [hc, asBool], hρ b, h⟩
      · exact ⟨_, _, by simp [hc, asBool], hρ a, h⟩
    · rename_i op T x y yT hop
      split at h
      · rename_i e hk hy
        obtain ⟨d, hd, hkd⟩ := kind_ok hT hk (by simp)
        cases d <;> simp only [tkOf, reduceCtorEq, TK.slice.injEq] at hkd
        have hyv := hρ y
        rw [hy] at hyv
        obtain ⟨a0, hyv, ha0⟩ := hyv
        have ha0 := ha0 rfl
        subst ha0
        have hx := hρ x
        have fact : ∀ p, lenNil m (ρA x) = some p → ∃ a n c, ρ x = .slice a n c ∧ (a = none → p) := by
          intro p hp
          unfold lenNil at hp
          split at hp
          · rename_i src t xs hxe
            cases hp
            rw [hxe] at hx
            obtain ⟨a, cap, hv, hl, hr⟩ := hx
            simp only [List.cons.injEq, and_true] at hv
            refine ⟨a, _, cap, hv, fun ha => ?_⟩
            rcases hr with rfl | ⟨b, off, rfl, _⟩
            · rfl
            · cases ha
          · rename_i i hxe
            split at hp
            · rename_i e' t xs src hm
              cases hp
              rw [hxe] at hx
              obtain ⟨a, cap, hv, hnil⟩ := own_len (row_sat hS hm)
              refine ⟨a, _, cap, by rw [hx.1]; exact hv, fun ha => ?_⟩
              rcases hnil with rfl | ⟨b, _, rfl⟩
              · rfl
              · cases ha
            · cases hp
          · rename_i hxe
            cases hp
            rw [hxe] at hx
            obtain ⟨a, hv, _⟩ := hx
            exact ⟨a, 0, 0, hv, fun _ => trivial⟩
          · cases hp
        have run : ∀ (a : Option Addr) (n c : Nat), (Op.equal T (.slice a n c) (.slice none 0 0)).run P w = .ok a.isNone w := by
          intro a n c
          refine equal_of (fun d => ?_)
          cases a <;> simp [Op.equalIn, underlying, hd]
        have grd : ∀ (a : Option Addr) (n c : Nat), (eqGuard op T x y (.slice a n c) (.slice none 0 0)).run P w = .ok () w := by
          intro a n c
          unfold eqGuard; cases op <;> simp
        unfold execOp
        simp only [hop]
        split at h
        · rename_i p hp
          obtain ⟨a, n, c, hv, hn⟩ := fact p hp
          obtain ⟨h1, h2⟩ := h
          have r := run a n c
          have g := grd a n c
          cases a with
          | none => exact ⟨.bool true, .bool true, by simp [hv, hyv, g, binOp, r], rfl, h1 (hn rfl)⟩
          | some ad => exact ⟨.bool false, .bool false, by simp [hv, hyv, g, binOp, r], rfl, h2⟩
        · rename_i p hp
          obtain ⟨a, n, c, hv, hn⟩ := fact p hp
          obtain ⟨h1, h2⟩ := h
          have r := run a n c
          have g := grd a n c
          cases a with
          | none => exact ⟨.bool false, .bool false, by simp [hv, hyv, g, binOp, r], rfl, h1 (hn rfl)⟩
          | some ad => exact ⟨.bool true, .bool true, by simp [hv, hyv, g, binOp, r], rfl, h2⟩
        · exact h.elim
      · exact h.elim
    · rename_i t x ix hop
      obtain ⟨r, av, h1, h2, h3⟩ := splitQ_sound hT hS hρ hop h
      unfold execOp
      simp only [hop]
      exact ⟨r, av, by simp [h1], h2, h3⟩
    · exact h.elim
end qval

end Go.Proofs.Ytkdemkkepepbdaa.Sx
