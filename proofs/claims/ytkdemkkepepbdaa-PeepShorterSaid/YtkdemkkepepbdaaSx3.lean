/- The framework: memory that fits, tables that fit, and the quiet operations. -/
import Derived.Test.YtkdemkkepepbdaaSx2
namespace Go.Proofs.Ytkdemkkepepbdaa.Sx
set_option linter.unusedSectionVars false
set_option linter.unusedVariables false
set_option linter.unusedSimpArgs false
open Go.RowKit

def tkOf : TypeDesc → TK
  | .int k => .int k
  | .bool => .bool
  | .string => .str
  | .slice e => .slice e
  | .struct fs => .struct (fs.toList.map fun f => (f.type, f.offset))
  | .pointer e => .ptr e
  | .array n e => .arr n e
  | .func _ _ _ => .func
  | _ => .other

structure EntryOK (P : Program) (t : TypeId) (ti : TI) : Prop where
  info : ∃ i, P.info? t = some i ∧ i.size = ti.size ∧ i.bytes = ti.bytes ∧ i.zero = some ti.zero
  kind : ∃ d, P.underlying t = some d ∧ tkOf d = ti.k
  eqs : ti.eqs = true → P.eqGuardType P.depth t = false ∧ ∀ fs, P.underlying t = some (.struct fs) → P.stoodInHeld t = false ∧ ∀ f ∈ fs.toList, f.name ≠ "_"

def TabOK (P : Program) (tab : Tab) : Prop := ∀ t ti, tlook tab t = some ti → EntryOK P t ti

theorem beq_true {a b : Nat} (h : Nat.beq a b = true) : a = b := by simpa using h
theorem ble_true {a b : Nat} (h : Nat.ble a b = true) : a ≤ b := Nat.le_of_ble_eq_true h

theorem tabOK_cons {P : Program} {t : Nat} {ti : TI} {l : Tab} (h : EntryOK P t ti) (hl : TabOK P l) : TabOK P ((t, ti) :: l) := by
  intro u ui hu
  simp only [tlook] at hu
  split at hu
  · rename_i hb
    have := beq_true hb
    subst this
    cases hu
    exact h
  · exact hl u ui hu
theorem tabOK_nil {P : Program} : TabOK P [] := by intro u ui hu; simp [tlook] at hu

section runs
variable {P : Program} {t : TypeId} {ti : TI} (h : EntryOK P t ti) (w : World)
include h
theorem EntryOK.typeInfo : ∃ i, (typeInfo t).run P w = .ok i w ∧ i.size = ti.size ∧ i.bytes = ti.bytes ∧ i.zero = some ti.zero := by
  obtain ⟨i, hi, h1, h2, h3⟩ := h.info
  exact ⟨i, by simp [Go.typeInfo, hi], h1, h2, h3⟩
theorem EntryOK.sizeOf : (sizeOf t).run P w = .ok ti.size w := by
  obtain ⟨i, hi, h1, h2, h3⟩ := h.info
  simp [Go.sizeOf, Go.typeInfo, hi, h1]
theorem EntryOK.zeroValue : (zeroValue t).run P w = .ok ti.zero w := by
  obtain ⟨i, hi, h1, h2, h3⟩ := h.info
  simp [Go.zeroValue, Go.typeInfo, hi, h3]
theorem EntryOK.underlying : ∃ d, (underlying t).run P w = .ok d w ∧ tkOf d = ti.k := by
  obtain ⟨d, hd, hk⟩ := h.kind
  exact ⟨d, by simp [Go.underlying, hd], hk⟩
def isAggK : TK → Bool
  | .struct _ | .arr _ _ => true
  | _ => false
theorem EntryOK.isAgg : (isAgg t).run P w = .ok (isAggK ti.k) w := by
  obtain ⟨d, hd, hk⟩ := h.kind
  rw [← hk]
  simp only [Go.isAgg, Go.underlying, Sem.run_bind, run_program, Result.andThen_ok, hd]
  cases d <;> simp [tkOf, isAggK]
end runs

/-- What is fixed while a function runs: the world at its beginning, the old blocks that it may write, the old blocks that it may read. -/
structure Base where
  w0 : World
  F0 : Nat → Prop
  T0 : Nat → Prop

def DRepL (S : Nat → Prop) (w : World) (t : Ty) : List (den t) → List Value → Prop
  | [], vs => vs = []
  | x :: xs, vs => ∃ v us, vs = v ++ us ∧ DRep S w t x v ∧ DRepL S w t xs us

def SatB (E : Env) (w : World) (i : Nat) : Blk → Prop
  | .dead => True
  | .var cells => ∃ b vs T, E.bl i = some b ∧ w.heap[b]? = some (.cells vs.toArray T (0, 0)) ∧ RelL E w cells vs
  | .row e t xs src => xs.length ≤ LIM ∧ ∃ cells, w.ownsRow 0 e (nc t) (E.sl i) xs.length cells ∧ E.bl i = (E.sl i).ownBlock ∧ DRepL (E.ok src) w t xs cells

structure SatM (B : Base) (E : Env) (m : List Blk) (w : World) : Prop where
  blk : ∀ i bk, m[i]? = some bk → SatB E w i bk
  out : ∀ i, m.length ≤ i → E.bl i = none
  inj : ∀ i j b, E.bl i = some b → E.bl j = some b → i = j
  old : ∀ i b, E.bl i = some b → (B.F0 b ∨ B.w0.heap.size ≤ b) ∧ b < w.heap.size
  os : w.os = B.w0.os
  tape : w.tape = B.w0.tape
  output : w.output = B.w0.output
  size : B.w0.heap.size ≤ w.heap.size
  frame : ∀ b, b < B.w0.heap.size → ¬ B.F0 b → w.heap[b]? = B.w0.heap[b]?
  T : ∀ b, E.T b ↔ (B.T0 b ∨ B.w0.heap.size ≤ b)
  FT : ∀ b, B.F0 b → B.T0 b

theorem mget_get {m : List Blk} : ∀ {i : Nat}, mget m i ≠ .dead → m[i]? = some (mget m i) := by
  induction m with
  | nil => intro i h; exact absurd (by cases i <;> rfl) h
  | cons a l ih =>
    intro i h
    cases i with
    | zero => rfl
    | succ i => simpa [mget] using ih (by simpa [mget] using h)

theorem row_sat {B : Base} {E : Env} {m : List Blk} {w : World} (hS : SatM B E m w) {i : Nat} {e : TypeId} {t : Ty} {xs : List (den t)} {src : List Nat} (hm : mget m i = .row e t xs src) : SatB E w i (.row e t xs src) := by
  have hg := mget_get (m := m) (i := i) (by rw [hm]; simp)
  rw [hm] at hg
  exact hS.blk _ _ hg

theorem var_sat {B : Base} {E : Env} {m : List Blk} {w : World} (hS : SatM B E m w) {i : Nat} {cells : List AV} (hm : mget m i = .var cells) : SatB E w i (.var cells) := by
  have hg := mget_get (m := m) (i := i) (by rw [hm]; simp)
  rw [hm] at hg
  exact hS.blk _ _ hg

theorem cell_of_heap {w : World} {b : Nat} {vs : List Value} {T : TypeId} {f : Nat × Nat} (h : w.heap[b]? = some (.cells vs.toArray T f)) (o : Nat) :
    w.cell? ⟨b, o, none⟩ = vs[o]? := by
  simp [World.cell?, h]

theorem frozen_of_heap {w : World} {b : Nat} {vs : List Value} {T : TypeId} (h : w.heap[b]? = some (.cells vs.toArray T (0, 0))) (o : Nat) :
    w.frozen? ⟨b, o, none⟩ = false := by
  simp [World.frozen?, h]

theorem addr_add (b o n : Nat) : (⟨b, o, none⟩ : Addr).add n = ⟨b, o + n, none⟩ := by
  unfold Addr.add; split <;> simp_all

theorem andb_split {a b : Bool} (h : andb a b = true) : a = true ∧ b = true := by cases a <;> simp_all [andb]
theorem blt_lt {a b : Nat} (h : Nat.blt a b = true) : a < b := Nat.le_of_ble_eq_true h
theorem memb_true {l : List Nat} {n : Nat} (h : memb n l = true) : n ∈ l := by
  induction l with
  | nil => simp [memb] at h
  | cons a l ih =>
    simp only [memb] at h
    cases hb : Nat.beq n a with
    | true => rw [beq_true hb]; simp
    | false => rw [hb] at h; exact List.mem_cons_of_mem _ (ih h)
theorem mem_uni {i : Nat} : ∀ {k l : List Nat}, i ∈ k ++ l → i ∈ uni k l
  | [], l, h => by simpa [uni] using h
  | a :: k, l, h => by
    simp only [uni]
    rw [List.cons_append, List.mem_cons] at h
    cases hb : memb a l with
    | true =>
      rcases h with rfl | h
      · exact mem_uni (List.mem_append.2 (.inr (memb_true hb)))
      · exact mem_uni h
    | false =>
      simp only
      rcases h with rfl | h
      · simp
      · exact List.mem_cons_of_mem _ (mem_uni h)
theorem mem_uniL {i : Nat} {k l : List Nat} (h : i ∈ k) : i ∈ uni k l := mem_uni (List.mem_append.2 (.inl h))
theorem mem_uniR {i : Nat} {k l : List Nat} (h : i ∈ l) : i ∈ uni k l := mem_uni (List.mem_append.2 (.inr h))
theorem llen_eq : ∀ l : List AV, llen l = l.length
  | [] => rfl
  | _ :: l => by simp [llen, llen_eq l]
theorem mlen_eq : ∀ l : List Blk, mlen l = l.length
  | [] => rfl
  | _ :: l => by simp [mlen, mlen_eq l]
theorem app_eq {α : Type} : ∀ l m : List α, app l m = l ++ m
  | [], _ => rfl
  | a :: l, m => by simp [app, app_eq l m]
theorem ldrop_eq : ∀ (n : Nat) (l : List AV), ldrop n l = l.drop n
  | 0, l => rfl
  | n + 1, [] => rfl
  | n + 1, a :: l => by simp [ldrop, ldrop_eq n l]
theorem ltake_eq : ∀ (n : Nat) (l : List AV), ltake n l = l.take n
  | 0, l => rfl
  | n + 1, [] => rfl
  | n + 1, a :: l => by simp [ltake, ltake_eq n l]

/-- A value of a known kind is one cell. -/
theorem Rel.cells {E : Env} {w : World} {a : AV} {v : Value} {cs : List AV} (h : Rel E w a v) (hc : cells? a = some cs) : ∃ vs : List Value, v.cells = vs.toArray ∧ RelL E w cs vs := by
  cases a <;> simp only [cells?, Option.some.injEq, reduceCtorEq] at hc <;> subst hc
  case agg l =>
    simp only [Rel] at h
    obtain ⟨vs, rfl, h⟩ := h
    exact ⟨vs, rfl, h⟩
  all_goals
    refine ⟨[v], ?_, v, [], rfl, h, rfl⟩
    simp only [Rel, DRep] at h
    first
      | (subst h; rfl)
      | (obtain ⟨rfl, _⟩ := h; rfl)
      | (obtain ⟨_, rfl⟩ := h; rfl)
      | (obtain ⟨_, _, rfl⟩ := h; rfl)
      | (obtain ⟨_, _, rfl, _⟩ := h; rfl)
      | (obtain ⟨_, _, h1, _⟩ := h; simp only [List.cons.injEq, and_true] at h1; subst h1; rfl)
      | (obtain ⟨_, _, _, rfl, _⟩ := h; rfl)
      | (obtain ⟨_, _, _, _, rfl, _⟩ := h; rfl)
      | (obtain ⟨_, rfl, _⟩ := h; rfl)
      | (obtain ⟨_, _, _, _, rfl⟩ := h; rfl)

end Go.Proofs.Ytkdemkkepepbdaa.Sx
