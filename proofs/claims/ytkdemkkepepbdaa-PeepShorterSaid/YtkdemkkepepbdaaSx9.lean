/- The framework: from a law's evaluation to its given row. -/
import Derived.Test.YtkdemkkepepbdaaSx8
import Derived.ProofKit
import Derived.HandedShaped
import Derived.ReadAgain
import Derived.ChangeReads
import Derived.ChangeArms
namespace Go.Proofs.Ytkdemkkepepbdaa.Sx
set_option linter.unusedSectionVars false
set_option linter.unusedVariables false
set_option linter.unusedSimpArgs false
open Go.RowKit Go.ChangeShapes Go.WideShapes

/-! ### a law's call -/

def E0 : Env := ⟨fun _ => none, fun _ => undef, fun _ => True⟩
def B0 (W : World) : Base := ⟨W, fun _ => False, fun _ => True⟩

theorem satM0 (W : World) : SatM (B0 W) E0 [] W :=
  ⟨fun i bk h => by simp at h, fun _ _ => rfl, fun i j b h => by simp [E0] at h, fun i b h => by simp [E0] at h, rfl, rfl, rfl, Nat.le_refl _, fun _ _ _ => rfl,
    fun b => by simp [E0, B0], fun b h => h.elim⟩

theorem SatM.below {W W' : World} {E : Env} {m : List Blk} (h : SatM (B0 W) E m W') : Below W.heap.size W W' :=
  ⟨h.os, h.tape, h.output, h.size, fun k hk => h.frame k hk (fun x => x)⟩

theorem law_calls {P : Program} {call : ACall} (hC : CallOK P call) {f : FuncId} {args : List AV} {vs : List Value} {W : World} (hR : RelL E0 W args vs)
    (h : call f args [] fun out _ _ _ => out = .ret (.bool true)) : Calls P f vs.toArray W fun e W' => e = .returned (.bool true) ∧ Below W.heap.size W W' := by
  refine (hC.calls h (B0 W) E0 W vs (satM0 W) hR).mono fun e W' he => ?_
  obtain ⟨out, m', k1, k2, E', rfl, hS, _, v, rfl, hv⟩ := he
  simp only [Rel] at hv
  subst hv
  exact ⟨rfl, hS.below⟩

/-! ### what a law leaves -/

theorem trodAll_keep {H : Type} {enc : TypeId × Value → H} {P : Program} {W W' : World} {sp : Nat → Bool} : ∀ {ts : List TypeId} {vs : List Value} {ds : List (DataW H)} {ps : List MemPlace},
    DataW.TrodAll enc P W 0 sp true ts vs ds ps → (∀ p ∈ ps, W.sameAt W' p) → DataW.TrodAll enc P W' 0 sp true ts vs ds ps
  | [], [], [], _, h, _ => h
  | t :: ts, v :: vs, d :: ds, ps, h, hs => by
    obtain ⟨p, q, ⟨n, h1⟩, h2, rfl⟩ := h
    exact ⟨p, q, ⟨n, DataW.trod_carry n _ _ _ h1 fun x hx => hs x (List.mem_append.2 (.inl hx))⟩, trodAll_keep h2 fun x hx => hs x (List.mem_append.2 (.inr hx)), rfl⟩
  | [], [], _ :: _, _, h, _ => h.elim
  | [], _ :: _, _, _, h, _ => h.elim
  | _ :: _, [], _, _, h, _ => h.elim
  | _ :: _, _ :: _, [], _, h, _ => h.elim

theorem law_post {H : Type} {enc : TypeId × Value → H} {P : Program} {f : Func} {s : ChangeSpec} {fresh handsOn : Bool} {W W' : World} {args : Array Value} {ds gs : List (DataW H)} {before : List MemPlace}
    (kids : Kids P (· < P.types.size)) (hz : ∀ t e, t < P.types.size → P.underlying t = some (.slice e) → 0 < P.cellsOf e) (hpar : ∀ t ∈ f.params.toList, t < P.types.size)
    (hvars : s.vars = []) {tb : TypeId} (hres : f.resultTypes = #[tb]) (htb : P.underlying tb = some .bool) (hfn : s.fn H (ds ++ gs) = { results := [.lit (.bool true)], args := ds })
    (hW : DataW.Whole enc P f.params.toList s.vars false W args.toList ds gs before) (hb : Below W.heap.size W W') :
    s.post enc P f false fresh handsOn false W args (.bool true) W' := by
  have hlt : ∀ p ∈ before, p.block < W.heap.size := fun p hp => hW.lt p hp
  have hW0 := hW
  obtain ⟨p, q, hA, hV, rfl, _⟩ := hW
  rw [hvars] at hV
  cases gs with
  | cons _ _ => exact hV.elim
  | nil =>
    simp only [DataW.TrodVars] at hV
    subst hV
    refine ⟨ds, [], p ++ [], [], p, [], hW0, ?_, ?_, ?_, World.keptBut_mono (fun x hx => ⟨hx, .inr (.inl (by simpa using hx))⟩) (hb.frame (· ∈ p ++ [])), fun h => by cases h⟩
    · rw [hfn, hres]
      exact ⟨[], [], ⟨1, by simp [DataW.trod, htb, Value.resultList, Value.cells]⟩, rfl, rfl⟩
    · rw [hfn]
      have h1 := DataW.TrodAll.respare (spare' := fun b => decide (b < W.heap.size)) kids hz hpar hA (fun x hx => by simpa using hlt x (by simpa using hx))
      exact trodAll_keep h1 fun x hx => hb.same (hlt x (by simpa using hx))
    · rw [hvars, hfn]; rfl

/-! ### arguments that came in -/


def tyFs (tab : Tab) (f : TypeId → Ty → Bool) : List (TypeId × Nat) → Nat → Ty → Bool
  | [], _, _ => false
  | (t, o) :: l, off, T => match l with
    | [] => andb (Nat.beq o off) (andb (match sizeT tab t with | some n => Nat.beq n (nc T) | none => false) (f t T))
    | _ :: _ => match T with
      | .prod a b => andb (Nat.beq o off) (andb (match sizeT tab t with | some n => Nat.beq n (nc a) | none => false) (andb (f t a) (tyFs tab f l (off + nc a) b)))
      | _ => false

/-- Does a code fit a type? -/
def tyB (tab : Tab) : Nat → TypeId → Ty → Bool
  | 0, _, _ => false
  | n + 1, t, T => match kindOf tab t, T with
    | .int k, .int k' => decide (k = k')
    | .bool, .bool => true
    | .str, .str => true
    | .slice e, .list T' => andb (match sizeT tab e with | some n => Nat.beq n (nc T') | none => false) (andb (Nat.blt 0 (bytesT tab e)) (tyB tab n e T'))
    | .struct fs, T => andb (match sizeT tab t with | some n => Nat.beq n (nc T) | none => false) (tyFs tab (tyB tab n) fs 0 T)
    | _, _ => false

theorem sizeT_cells {P : Program} {tab : Tab} (hT : TabOK P tab) {t : TypeId} {n : Nat} (h : sizeT tab t = some n) : P.cellsOf t = n := by
  unfold sizeT at h
  cases ht : tlook tab t with
  | none => rw [ht] at h; cases h
  | some ti =>
    rw [ht] at h; cases h
    obtain ⟨i, hi, h1, _⟩ := (hT t ti ht).info
    simp [Program.cellsOf, hi, h1]
theorem bytesT_bytes {P : Program} {tab : Tab} (hT : TabOK P tab) {t : TypeId} (h : 0 < bytesT tab t) : P.bytesOf t = bytesT tab t := by
  unfold bytesT at *
  cases ht : tlook tab t with
  | none => rw [ht] at h; simp at h
  | some ti =>
    obtain ⟨i, hi, _, h2, _⟩ := (hT t ti ht).info
    simp [Program.bytesOf, hi, h2]

theorem collect {α : Type} {R : Nat → α → Prop} : ∀ n, (∀ i, i < n → ∃ x, R i x) → ∃ xs : List α, xs.length = n ∧ ∀ i x, xs[i]? = some x → R i x
  | 0, _ => ⟨[], rfl, by simp⟩
  | n + 1, h => by
    obtain ⟨xs, hl, hx⟩ := collect n (fun i hi => h i (by omega))
    obtain ⟨y, hy⟩ := h n (by omega)
    refine ⟨xs ++ [y], by simp [hl], fun i x hi => ?_⟩
    rw [List.getElem?_append] at hi
    split at hi
    · exact hx i x hi
    · rename_i hlt
      have : i - xs.length = 0 := by
        cases hd : i - xs.length with
        | zero => rfl
        | succ k => rw [hd] at hi; simp at hi
      rw [this] at hi
      simp at hi
      subst hi
      have : i = n := by omega
      subst this; exact hy

theorem cells_at {w : World} {base : Nat} {a : Addr} {n : Nat} {cs : List Value} (h : w.cells? base a n = some cs) (hn : 0 < n) : a.spot = none ∧ cs.length = n ∧ CellsAt w a.block a.off cs := by
  unfold World.cells? at h
  split at h
  · have hl : cs.length = n := by simpa using mapM_some_length h
    have hg : ∀ i, i < n → w.cell? (a.add i) = cs[i]? := fun i hi => by simpa using mapM_some_get h i i (by simp [hi])
    have h0 := hg 0 hn
    have hsp : a.spot = none := by
      have hex : ∃ v, w.cell? a = some v := ⟨cs[0]'(by omega), by
        have : (a.add 0) = a := by simp [Addr.add]
        rw [this] at h0; rw [h0]; simp [hl, hn]⟩
      obtain ⟨v, hv⟩ := hex
      unfold World.cell? at hv
      split at hv
      · split at hv
        · cases hv
        · rename_i hs
          cases hsp : a.spot with
          | none => rfl
          | some x => simp [hsp] at hs
      · cases hv
    refine ⟨hsp, hl, fun j v hj => ?_⟩
    have hjn : j < n := by
      have := (List.getElem?_eq_some_iff.1 hj).1
      omega
    have h1 := hg j hjn
    have ha : a = ⟨a.block, a.off, none⟩ := by cases a; simp at hsp; simp [hsp]
    rw [ha, addr_add] at h1
    rw [h1]; exact hj
  · cases h

section opening
variable {H : Type} {enc : TypeId × Value → H} {P : Program} {tab : Tab} (hT : TabOK P tab) {w : World}
include hT

theorem mem_weightsAll {e : TypeId} {x : Nat} : ∀ {l : List (DataW H)} {i : Nat} {d : DataW H}, l[i]? = some d → x ∈ d.weights P e → x ∈ DataW.weightsAll P e l
  | [], i, d, h, _ => by simp at h
  | a :: l, i, d, h, hx => by
    simp only [DataW.weightsAll, List.mem_append]
    cases i with
    | zero => simp at h; subst h; exact .inl hx
    | succ i => exact .inr (mem_weightsAll (l := l) (i := i) (by simpa using h) hx)

theorem mem_weightsEach {x : Nat} : ∀ {ts : List TypeId} {l : List (DataW H)} {i : Nat} {t : TypeId} {d : DataW H}, ts[i]? = some t → l[i]? = some d → x ∈ d.weights P t → x ∈ DataW.weightsEach P ts l
  | [], l, i, t, d, h, _, _ => by simp at h
  | u :: ts, [], i, t, d, _, h, _ => by simp at h
  | u :: ts, a :: l, i, t, d, h, h', hx => by
    simp only [DataW.weightsEach, List.mem_append]
    cases i with
    | zero => simp at h h'; subst h; subst h'; exact .inl hx
    | succ i => exact .inr (mem_weightsEach (ts := ts) (l := l) (i := i) (by simpa using h) (by simpa using h') hx)

/-- What was read as data can be taken as a datum. -/
theorem trod_drep {base : Nat} {sp : Nat → Bool} : ∀ (n : Nat) {t : TypeId} {T : Ty}, tyB tab n t T = true → ∀ {fuel : Nat} {cs : List Value} {x : DataW H × List MemPlace},
    DataW.trod enc P w base sp true fuel t cs = some x → (∀ b ∈ x.1.weights P t, b ≤ reachBytes) → ∃ y : den T, DRep (fun _ => True) w T y cs := by
  intro n
  induction n with
  | zero => intro t T h; simp [tyB] at h
  | succ n ih =>
    intro t T hty fuel cs x h hw
    simp only [tyB] at hty
    split at hty
    · rename_i k k' hk
      obtain ⟨d, hd, hkd⟩ := kind_ok hT hk (by simp)
      cases d <;> simp only [tkOf, reduceCtorEq, TK.int.injEq] at hkd
      subst hkd
      obtain ⟨m, rfl, _, hwf⟩ := DataW.trod_int hd h
      have : _ = _ := of_decide_eq_true hty
      subst this
      exact ⟨m, rfl, (Lit.wf_int_iff _ _).1 hwf⟩
    · rename_i hk
      obtain ⟨d, hd, hkd⟩ := kind_ok hT hk (by simp)
      cases d <;> simp only [tkOf, reduceCtorEq] at hkd
      obtain ⟨m, rfl, _⟩ := DataW.trod_bool hd h
      exact ⟨m, rfl⟩
    · rename_i hk
      obtain ⟨d, hd, hkd⟩ := kind_ok hT hk (by simp)
      cases d <;> simp only [tkOf, reduceCtorEq] at hkd
      obtain ⟨s, rfl, rfl, _⟩ := DataW.trod_string hd h
      refine ⟨s.data.toList, by simp, ?_⟩
      have := hw s.data.toList.length (by simp [DataW.weights])
      unfold reachBytes at this
      unfold LIM
      omega
    · rename_i e T' hk
      obtain ⟨d, hd, hkd⟩ := kind_ok hT hk (by simp)
      cases d <;> simp only [tkOf, reduceCtorEq, TK.slice.injEq] at hkd
      have hkd' := hkd.symm
      subst hkd'
      simp only [andb_iff, blt_iff] at hty
      obtain ⟨hs, hb, hty⟩ := hty
      have hce : P.cellsOf e = nc T' := by
        cases hse : sizeT tab e with
        | none => rw [hse] at hs; cases hs
        | some m => rw [hse] at hs; rw [sizeT_cells hT hse]; exact beq_true hs
      rcases DataW.trod_slice hd h with ⟨rfl, rfl⟩ | ⟨a, len, cap, elems, rest, m, _, rfl, rfl, _, hlc, _, hel, hget, _⟩
      · exact ⟨[], none, 0, rfl, by simp [LIM], .inl rfl⟩
      · have hbe := bytesT_bytes hT hb
        have hlen : len ≤ LIM := by
          have h1 := hw ((elems.map (·.1)).length + (rest.map (·.1)).length |> (· * P.bytesOf e)) (by simp [DataW.weights, hd])
          simp only [List.length_map] at h1
          rw [hbe] at h1
          have : elems.length + rest.length ≤ (elems.length + rest.length) * bytesT tab e := Nat.le_mul_of_pos_right _ hb
          unfold reachBytes at h1
          unfold LIM
          omega
        have each : ∀ i, i < len → ∃ y : den T', ∃ cs : List Value, a.spot = none ∧ cs.length = nc T' ∧ CellsAt w a.block (a.off + i * nc T') cs ∧ DRep (fun _ => True) w T' y cs := by
          intro i hi
          have hgi := hget i hi
          have hix : i < elems.length := by omega
          rw [List.getElem?_eq_getElem hix] at hgi
          cases hc : w.cells? base (a.add (i * P.cellsOf e)) (P.cellsOf e) with
          | none => rw [hc] at hgi; simp at hgi
          | some cs =>
            rw [hc] at hgi
            simp only [Option.bind_some] at hgi
            have hnp : 0 < P.cellsOf e := by rw [hce]; exact nc_pos T'
            obtain ⟨h1, h2, h3⟩ := cells_at hc hnp
            obtain ⟨y, hy⟩ := ih hty hgi (fun b hb => hw b (by
              simp only [DataW.weights, hd, List.mem_cons, List.mem_append]
              exact .inr (.inl (mem_weightsAll hT (i := i) (d := elems[i].1) (by simp [hix]) hb))))
            refine ⟨y, cs, ?_, by rw [h2, hce], ?_, hy⟩
            · by_cases hi0 : i * P.cellsOf e = 0
              · simpa [Addr.add, hi0] using h1
              · -- an address that was moved has no spot; the first element tells of the address itself
                have hg0 := hget 0 (by omega)
                rw [List.getElem?_eq_getElem (by omega)] at hg0
                cases hc0 : w.cells? base (a.add (0 * P.cellsOf e)) (P.cellsOf e) with
                | none => rw [hc0] at hg0; simp at hg0
                | some cs0 =>
                  have := (cells_at hc0 hnp).1
                  simpa [Addr.add] using this
            · have hblk : (a.add (i * P.cellsOf e)).block = a.block := by unfold Addr.add; split <;> rfl
              have hoff : (a.add (i * P.cellsOf e)).off = a.off + i * nc T' := by
                rw [← hce]; unfold Addr.add; split
                · rename_i h0; rw [h0]; simp
                · rfl
              rw [hblk, hoff] at h3
              exact h3
        obtain ⟨ys, hl, hys⟩ := collect len each
        refine ⟨ys, some a, cap, by rw [hl], by rw [hl]; exact ⟨hlen, hlc⟩, ?_⟩
        by_cases h0 : ys = []
        · exact .inl h0
        · have hpos : 0 < len := by rw [← hl]; exact List.length_pos_iff.2 h0
          obtain ⟨_, _, hsp, _⟩ := each 0 hpos
          refine .inr ⟨a.block, a.off, by cases a; simp at hsp; simp [hsp], trivial, fun i y hi => ?_⟩
          obtain ⟨cs, _, h1, h2, h3⟩ := hys i y hi
          exact ⟨cs, h1, h2, h3⟩
    · rename_i T _ _ fs hk
      obtain ⟨d, hd, hkd⟩ := kind_ok hT hk (by simp)
      cases d <;> simp only [tkOf, reduceCtorEq, TK.struct.injEq] at hkd
      rename_i fields
      subst hkd
      rw [andb_iff] at hty
      obtain ⟨hs, hty⟩ := hty
      have hct : P.cellsOf t = nc T := by
        cases hse : sizeT tab t with
        | none => rw [hse] at hs; cases hs
        | some m => rw [hse] at hs; rw [sizeT_cells hT hse]; exact beq_true hs
      obtain ⟨xs, m, _, rfl, hcl, hxl, hget⟩ := DataW.trod_struct hd h
      -- field by field
      have go : ∀ (l : List Field) (off : Nat) (T : Ty) (j : Nat), tyFs tab (tyB tab n) (l.map fun f => (f.type, f.offset)) off T = true →
          (∀ i f, l[i]? = some f → fields[j + i]? = some f) → ∃ y : den T, DRep (fun _ => True) w T y ((cs.drop off).take (nc T)) := by
        intro l
        induction l with
        | nil => intro off T j h; simp [tyFs] at h
        | cons f l ihl =>
          intro off T j hf hpos
          have h0 := hpos 0 f rfl
          have hx := hget j f (by simpa using h0)
          have hjx : j < xs.length := by rw [hxl]; exact (Array.getElem?_eq_some_iff.1 (by simpa using h0)).1
          rw [List.getElem?_eq_getElem hjx] at hx
          have hwj : ∀ b ∈ xs[j].1.weights P f.type, b ≤ reachBytes := fun b hb => hw b (by
            simp only [DataW.weights, hd]
            exact mem_weightsEach hT (i := j) (t := f.type) (d := xs[j].1) (by simpa using congrArg (Option.map (·.type)) (show fields.toList[j]? = some f by simpa using h0)) (by simp [hjx]) hb)
          have one : ∀ (U : Ty), Nat.beq f.offset off = true → (match sizeT tab f.type with | some n => Nat.beq n (nc U) | none => false) = true → tyB tab n f.type U = true →
              ∃ y : den U, DRep (fun _ => True) w U y ((cs.drop off).take (nc U)) := by
            intro U ho hsz hU
            have hcf : P.cellsOf f.type = nc U := by
              cases hse : sizeT tab f.type with
              | none => rw [hse] at hsz; cases hsz
              | some m => rw [hse] at hsz; rw [sizeT_cells hT hse]; exact beq_true hsz
            rw [hcf, beq_true ho] at hx
            exact ih hU hx hwj
          cases l with
          | nil =>
            simp only [List.map_cons, List.map_nil, tyFs, andb_iff] at hf
            exact one T hf.1 hf.2.1 hf.2.2
          | cons g l =>
            simp only [List.map_cons, tyFs] at hf
            split at hf
            · rename_i a b
              simp only [andb_iff] at hf
              obtain ⟨ya, hya⟩ := one a hf.1 hf.2.1 hf.2.2.1
              obtain ⟨yb, hyb⟩ := ihl (off + nc a) b (j + 1) (by simpa [tyFs] using hf.2.2.2) (fun i f' hi => by
                have := hpos (i + 1) f' (by simpa using hi)
                rwa [Nat.add_assoc, Nat.add_comm 1 i])
              refine ⟨(ya, yb), _, _, ?_, hya, hyb⟩
              simp only [nc]
              rw [List.take_add, List.drop_drop]
            · cases hf
      have := go fields.toList 0 T 0 hty (fun i f hi => by simpa using hi)
      obtain ⟨y, hy⟩ := this
      refine ⟨y, ?_⟩
      have hcs : (cs.drop 0).take (nc T) = cs := by
        rw [List.drop_zero, ← hct, ← hcl, List.take_length]
      rwa [hcs] at hy
    · cases hty

end opening

def wfT : (t : Ty) → den t → Prop
  | .int k, x => k.has x
  | .bool, _ => True
  | .str, x => x.length ≤ LIM
  | .list t, xs => xs.length ≤ LIM ∧ ∀ x ∈ xs, wfT t x
  | .prod a b, x => wfT a x.1 ∧ wfT b x.2

theorem DRep.wf {S : Nat → Prop} {w : World} : ∀ {t : Ty} {x : den t} {vs : List Value}, DRep S w t x vs → wfT t x
  | .int _, _, _, h => h.2
  | .bool, _, _, _ => trivial
  | .str, _, _, h => h.2
  | .list t, xs, vs, h => by
    obtain ⟨a, cap, _, hl, h⟩ := h
    refine ⟨hl.1, fun x hx => ?_⟩
    rcases h with rfl | ⟨b, off, _, _, h⟩
    · cases hx
    · obtain ⟨i, hi, rfl⟩ := List.getElem_of_mem hx
      obtain ⟨cs, _, _, hd⟩ := h i _ (List.getElem?_eq_getElem hi)
      exact hd.wf
  | .prod a b, x, vs, h => by
    obtain ⟨v1, v2, _, h1, h2⟩ := h
    exact ⟨h1.wf, h2.wf⟩

/-- An argument as an abstract value. -/
def argA (isS : Bool) (T : Ty) (x : den T) : AV := match isS with | true => .agg (Sx.enc [] T x) | false => lget (Sx.enc [] T x) 0
def isS (tab : Tab) (t : TypeId) : Bool := match kindOf tab t with | .struct _ => true | _ => false
def DT : List Ty → Type
  | [] => Unit
  | T :: l => den T × DT l
def wfs : (Ts : List Ty) → DT Ts → Prop
  | [], _ => True
  | T :: l, (x, xs) => wfT T x ∧ wfs l xs
def argsA (tab : Tab) : List TypeId → (Ts : List Ty) → DT Ts → List AV
  | t :: ts, T :: Ts, (x, xs) => argA (isS tab t) T x :: argsA tab ts Ts xs
  | _, _, _ => []
def tysB (tab : Tab) : List TypeId → List Ty → Bool
  | [], [] => true
  | t :: ts, T :: Ts => andb (tyB tab 12 t T) (tysB tab ts Ts)
  | _, _ => false

theorem open_args {H : Type} {enc : TypeId × Value → H} {P : Program} {tab : Tab} (hT : TabOK P tab) {W : World} {base : Nat} :
    ∀ {ts : List TypeId} {Ts : List Ty} {vs : List Value} {ds : List (DataW H)} {p : List MemPlace}, tysB tab ts Ts = true → DataW.TrodAll enc P W 0 (fun _ => true) true ts vs ds p →
    (∀ (j : Nat) t v, ts[j]? = some t → vs[j]? = some v → Value.okWide P W .any base t v) → (∀ b ∈ DataW.weightsEach P ts ds, b ≤ reachBytes) →
    ∃ xs : DT Ts, wfs Ts xs ∧ RelL E0 W (argsA tab ts Ts xs) vs
  | [], [], [], [], _, _, _, _, _ => ⟨(), trivial, rfl⟩
  | t :: ts, T :: Ts, v :: vs, d :: ds, p, hty, hA, hv, hw => by
    simp only [tysB, andb_iff] at hty
    obtain ⟨p1, p2, ⟨n, h1⟩, h2, _⟩ := hA
    simp only [DataW.weightsEach, List.mem_append] at hw
    obtain ⟨xs, hwf, hr⟩ := open_args hT hty.2 h2 (fun j t v ht hvj => hv (j + 1) t v (by simpa using ht) (by simpa using hvj)) (fun b hb => hw b (.inr hb))
    obtain ⟨x, hx⟩ := trod_drep hT 12 hty.1 h1 (fun b hb => hw b (.inl hb))
    have hx0 : DRep (E0.ok []) W T x v.cells.toList := hx.keep fun b _ _ => ⟨⟨trivial, fun i hi => by simp [E0] at hi⟩, fun _ _ h => h⟩
    refine ⟨(x, xs), ⟨hx.wf, hwf⟩, v, vs, rfl, ?_, hr⟩
    have hok := hv 0 t v rfl rfl
    have hre := rel_enc hx0
    have hkind : ∀ k, kindOf tab t = k → k ≠ .other → ∃ d, P.underlying t = some d ∧ tkOf d = k := fun k hk hn => kind_ok hT hk hn
    have hty1 := hty.1
    simp only [tyB] at hty1
    unfold argA isS
    split at hty1
    · rename_i hk
      obtain ⟨d, hd, hkd⟩ := hkind _ hk (by simp)
      cases d <;> simp only [tkOf, reduceCtorEq] at hkd
      rw [hk]
      simp only [Value.okWide, hd, Cell.okWide, Cell.ok] at hok
      cases v <;> (try simp only at hok) <;> (try exact hok.elim)
      simpa [Value.cells] using hre.get 0
    · rename_i hk
      obtain ⟨d, hd, hkd⟩ := hkind _ hk (by simp)
      cases d <;> simp only [tkOf, reduceCtorEq] at hkd
      rw [hk]
      simp only [Value.okWide, hd, Cell.okWide, Cell.ok] at hok
      cases v <;> (try simp only at hok) <;> (try exact hok.elim)
      simpa [Value.cells] using hre.get 0
    · rename_i hk
      obtain ⟨d, hd, hkd⟩ := hkind _ hk (by simp)
      cases d <;> simp only [tkOf, reduceCtorEq] at hkd
      rw [hk]
      simp only [Value.okWide, hd, Cell.okWide, Cell.ok] at hok
      cases v <;> (try simp only at hok) <;> (try exact hok.elim)
      simpa [Value.cells] using hre.get 0
    · rename_i hk
      obtain ⟨d, hd, hkd⟩ := hkind _ hk (by simp)
      cases d <;> simp only [tkOf, reduceCtorEq] at hkd
      rw [hk]
      simp only [Value.okWide, hd, Cell.okWide, Cell.ok] at hok
      cases v <;> (try simp only at hok) <;> (try exact hok.elim)
      simpa [Value.cells] using hre.get 0
    · rename_i hk
      obtain ⟨d, hd, hkd⟩ := hkind _ hk (by simp)
      cases d <;> simp only [tkOf, reduceCtorEq] at hkd
      rw [hk]
      simp only [Value.okWide, hd] at hok
      obtain ⟨cs, rfl, _⟩ := hok
      exact ⟨cs.toList, by simp, hre⟩
    · cases hty1

/-- **From a law's evaluation to what its row asks.** -/
theorem law_contract {H : Type} {enc : TypeId × Value → H} {P : Program} {tab : Tab} (hT : TabOK P tab) {call : ACall} (hC : CallOK P call) {f : FuncId} {fn : Func} {s : ChangeSpec} {fresh handsOn : Bool}
    (kids : Kids P (· < P.types.size)) (hz : ∀ t e, t < P.types.size → P.underlying t = some (.slice e) → 0 < P.cellsOf e) (hpar : ∀ t ∈ fn.params.toList, t < P.types.size)
    (hvars : s.vars = []) {tb : TypeId} (hres : fn.resultTypes = #[tb]) (htb : P.underlying tb = some .bool)
    (hfn : ∀ ds : List (DataW H), ds.length = fn.params.toList.length → s.fn H ds = { results := [.lit (.bool true)], args := ds })
    {Ts : List Ty} (hty : tysB tab fn.params.toList Ts = true) (hev : ∀ xs : DT Ts, wfs Ts xs → call f (argsA tab fn.params.toList Ts xs) [] fun out _ _ _ => out = .ret (.bool true))
    {W : World} {base : Nat} {args : Array Value} {ds gs : List (DataW H)} {before : List MemPlace}
    (hval : ∀ (j : Nat) t v, fn.params[j]? = some t → args[j]? = some v → Value.okWide P W .any base t v) (hW : DataW.Whole enc P fn.params.toList s.vars false W args.toList ds gs before)
    (hwt : (DataW.weightsEach P (fn.params.toList ++ s.plain.varTypes P) (ds ++ gs)).all (· ≤ reachBytes) = true) :
    Calls P f args W fun e W' => ∃ v, e = .returned v ∧ s.post enc P fn false fresh handsOn false W args v W' := by
  have hW0 := hW
  obtain ⟨p, q, hA, hV, _, _⟩ := hW0
  have hgs : gs = [] := by
    rw [hvars] at hV
    cases gs with
    | nil => rfl
    | cons _ _ => exact hV.elim
  have hvt : s.plain.varTypes P = [] := by simp [DataSpec.varTypes, ChangeSpec.plain, hvars]
  rw [hgs, hvt, List.append_nil, List.append_nil] at hwt
  have hlen : ds.length = fn.params.toList.length := by
    have : ∀ {ts : List TypeId} {vs : List Value} {ds : List (DataW H)} {p : List MemPlace}, DataW.TrodAll enc P W 0 (fun _ => true) true ts vs ds p → ds.length = ts.length := by
      intro ts
      induction ts with
      | nil => intro vs ds p h; cases vs <;> cases ds <;> first | rfl | exact h.elim
      | cons t ts ih =>
        intro vs ds p h
        cases vs with
        | nil => exact h.elim
        | cons v vs => cases ds with
          | nil => exact h.elim
          | cons d ds => obtain ⟨_, _, _, h2, _⟩ := h; simp [ih h2]
    exact this hA
  obtain ⟨xs, hwf, hR⟩ := open_args hT hty hA (fun j t v ht hv => hval j t v (by simpa using ht) (by simpa using hv)) (fun b hb => by simpa using List.all_eq_true.1 hwt b hb)
  have := law_calls hC hR (hev xs hwf)
  rw [Array.toArray_toList] at this
  refine this.mono fun e W' ⟨he, hb⟩ => ⟨.bool true, he, ?_⟩
  exact law_post kids hz hpar hvars hres htb (by rw [hgs, List.append_nil]; exact hfn ds hlen) hW hb

/-- A law's call returns true. -/
structure LawEv (call : ACall) (f : FuncId) (as : List AV) : Prop where
  out : call f as [] fun out _ _ _ => out = .ret (.bool true)

theorem law_contract' {H : Type} {enc : TypeId × Value → H} {P : Program} {tab : Tab} (hT : TabOK P tab) {call : ACall} (hC : CallOK P call) {f : FuncId} {fn : Func} {s : ChangeSpec} {fresh handsOn : Bool}
    (kids : Kids P (· < P.types.size)) (hz : ∀ t e, t < P.types.size → P.underlying t = some (.slice e) → 0 < P.cellsOf e) {ps : Array TypeId} (hps : fn.params = ps) (hpar : ∀ t ∈ ps.toList, t < P.types.size)
    (hvars : s.vars = []) {tb : TypeId} (hres : fn.resultTypes = #[tb]) (htb : P.underlying tb = some .bool)
    (hfn : ∀ ds : List (DataW H), ds.length = ps.toList.length → s.fn H ds = { results := [.lit (.bool true)], args := ds })
    {Ts : List Ty} (hty : tysB tab ps.toList Ts = true) (hev : ∀ xs : DT Ts, wfs Ts xs → LawEv call f (argsA tab ps.toList Ts xs))
    {W : World} {base : Nat} {args : Array Value} {ds gs : List (DataW H)} {before : List MemPlace}
    (hval : ∀ (j : Nat) t v, fn.params[j]? = some t → args[j]? = some v → Value.okWide P W .any base t v) (hW : DataW.Whole enc P fn.params.toList s.vars false W args.toList ds gs before)
    (hwt : (DataW.weightsEach P (fn.params.toList ++ s.plain.varTypes P) (ds ++ gs)).all (· ≤ reachBytes) = true) :
    Calls P f args W fun e W' => ∃ v, e = .returned v ∧ s.post enc P fn false fresh handsOn false W args v W' := by
  subst hps
  exact law_contract hT hC kids hz hpar hvars hres htb hfn hty (fun xs h => (hev xs h).out) hval hW hwt

end Go.Proofs.Ytkdemkkepepbdaa.Sx
