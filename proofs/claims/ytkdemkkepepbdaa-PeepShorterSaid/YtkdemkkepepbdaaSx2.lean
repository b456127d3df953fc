/- The framework's relation between abstract values and the model's, and what keeps it. -/
import Derived.Test.YtkdemkkepepbdaaSx1
namespace Go.Proofs.Ytkdemkkepepbdaa.Sx
set_option linter.unusedSectionVars false
set_option linter.unusedVariables false
set_option linter.unusedSimpArgs false
open Go.RowKit

theorem forceN_eq {n : Nat} {k : Nat → Prop} : forceN n k = k n := by cases n <;> rfl
theorem forceL_eq : ∀ {l : List Nat} {k : List Nat → Prop}, forceL l k = k l
  | [], _ => rfl
  | a :: l, k => by simp only [forceL, forceN_eq, forceL_eq]
theorem forceT_eq : ∀ {t : PT} {k : PT → Prop}, forceT t k = k t
  | .nil, _ => rfl
  | .cons ⟨b, r, c⟩ sub rest, k => by simp only [forceT, forceN_eq, forceL_eq, forceT_eq]
mutual
theorem forceV_eq : ∀ {v : AV} {k : AV → Prop}, forceV v k = k v
  | .agg l, k => by simp only [forceV, forceVL_eq]
  | .tup l, k => by simp only [forceV, forceVL_eq]
  | .vptr s l, k => by simp only [forceV, forceVL_eq]
  | .fn f a b, k => by simp only [forceV, forceVL_eq]
  | .iface t v, k => by simp only [forceV, forceV_eq]
  | .bad, k | .und, k | .int kk n, k | .bool b, k | .str s, k | .nilp, k | .nsl b, k | .nilfn, k | .nilif, k => by simp only [forceV, forceD]
  | .view src t xs, k => by simp only [forceV, forceL_eq, forceD]
  | .ptr i off, k => by simp only [forceV, forceN_eq]
  | .vsl i a b c, k => by simp only [forceV, forceN_eq]
  | .own i, k => by simp only [forceV, forceN_eq]
  | .sub i n, k => by simp only [forceV, forceN_eq, forceD]
  | .rptr i t a b, k => by simp only [forceV, forceN_eq]
theorem forceVL_eq : ∀ {l : List AV} {k : List AV → Prop}, forceVL l k = k l
  | [], k => by simp only [forceVL]
  | a :: l, k => by simp only [forceVL, forceV_eq, forceVL_eq]
end
theorem forceB_eq : ∀ {b : Blk} {k : Blk → Prop}, forceB b k = k b
  | .dead, k => rfl
  | .var l, k => by simp only [forceB, forceVL_eq]
  | .row e t xs src, k => by simp only [forceB, forceL_eq, forceD]
theorem forceM_eq : ∀ {l : List Blk} {k : List Blk → Prop}, forceM l k = k l
  | [], k => rfl
  | a :: l, k => by simp only [forceM, forceB_eq, forceM_eq]
theorem forceS_eq {σ : St} {k : St → Prop} : forceS σ k = k σ := by simp only [forceS, forceVL_eq, forceM_eq, forceL_eq]

def CellsAt (w : World) (b off : Nat) (vs : List Value) : Prop := ∀ j v, vs[j]? = some v → w.cell? ⟨b, off + j, none⟩ = some v

/-- The cells 'vs' hold the datum x; what it points to lies in blocks of S. -/
def DRep (S : Nat → Prop) (w : World) : (t : Ty) → den t → List Value → Prop
  | .int k, x, vs => vs = [.int k x] ∧ k.has x
  | .bool, x, vs => vs = [.bool x]
  | .str, x, vs => vs = [.string ⟨x.toArray⟩] ∧ x.length ≤ LIM
  | .list t, xs, vs => ∃ a cap, vs = [.slice a xs.length cap] ∧ (xs.length ≤ LIM ∧ xs.length ≤ cap) ∧
      (xs = [] ∨ ∃ b off, a = some ⟨b, off, none⟩ ∧ S b ∧ ∀ i x, xs[i]? = some x → ∃ cs : List Value, cs.length = nc t ∧ CellsAt w b (off + i * nc t) cs ∧ DRep S w t x cs)
  | .prod a b, x, vs => ∃ v1 v2, vs = v1 ++ v2 ∧ DRep S w a x.1 v1 ∧ DRep S w b x.2 v2

structure Env where
  bl : Nat → Option Nat
  sl : Nat → Value
  T : Nat → Prop

def Env.ok (E : Env) (src : List Nat) (b : Nat) : Prop := E.T b ∧ ∀ i, E.bl i = some b → i ∈ src

mutual
def Rel (E : Env) (w : World) : AV → Value → Prop
  | .bad, _ => True
  | .und, v => v = undef
  | .int k n, v => v = .int k n ∧ k.has n
  | .bool b, v => v = .bool b
  | .str s, v => v = .string ⟨s.toArray⟩ ∧ s.length ≤ LIM
  | .nilp, v => v = .pointer none
  | .nsl b, v => ∃ a, v = .slice a 0 0 ∧ (b = true → a = none)
  | .view src t xs, v => DRep (E.ok src) w (.list t) xs [v]
  | .vptr src cells, v => ∃ b off vs, v = .pointer (some ⟨b, off, none⟩) ∧ E.ok src b ∧ CellsAt w b off vs ∧ RelL E w cells vs ∧ cells ≠ []
  | .ptr i off, v => ∃ b, E.bl i = some b ∧ v = .pointer (some ⟨b, off, none⟩)
  | .vsl i off len cap, v => ∃ b, E.bl i = some b ∧ v = .slice (some ⟨b, off, none⟩) len cap
  | .own i, v => v = E.sl i ∧ ∃ a n c, v = .slice a n c
  | .sub i n, v => ∃ a l c, E.sl i = .slice a l c ∧ v = .slice a n.toNat c ∧ 0 ≤ n ∧ n.toNat ≤ l
  | .rptr i t idx off, v => ∃ b, E.bl i = some b ∧ v = .pointer (some ⟨b, idx.toNat * nc t + off, none⟩)
  | .agg l, v => ∃ vs : List Value, v = .agg vs.toArray ∧ RelL E w l vs
  | .tup l, v => ∃ vs : List Value, v = .tuple vs.toArray ∧ RelL E w l vs
  | .fn f l m, v => ∃ a b : List Value, v = .func f a.toArray b.toArray ∧ RelL E w l a ∧ RelL E w m b
  | .nilfn, v => v = .nilFunc
  | .nilif, v => v = .nilIface
  | .iface t x, v => ∃ u, v = .iface t u ∧ Rel E w x u
def RelL (E : Env) (w : World) : List AV → List Value → Prop
  | [], vs => vs = []
  | a :: l, vs => ∃ v us, vs = v :: us ∧ Rel E w a v ∧ RelL E w l us
end

theorem nc_pos : ∀ t, 0 < nc t
  | .prod a b => by have := nc_pos a; simp only [nc]; omega
  | .int _ | .bool | .str | .list _ => by simp [nc]

theorem DRep.length {S : Nat → Prop} {w : World} : ∀ {t : Ty} {x : den t} {vs : List Value}, DRep S w t x vs → vs.length = nc t
  | .int k, x, vs, h => by obtain ⟨rfl, _⟩ := h; rfl
  | .bool, x, vs, h => by cases h; rfl
  | .str, x, vs, h => by obtain ⟨rfl, _⟩ := h; rfl
  | .list t, xs, vs, h => by obtain ⟨a, cap, rfl, _⟩ := h; rfl
  | .prod a b, x, vs, h => by
    obtain ⟨v1, v2, rfl, h1, h2⟩ := h
    simp [nc, DRep.length h1, DRep.length h2]

/-- What keeps a datum: the blocks that it lies in are still allowed, and their cells read as they did. -/
def Keeps (S S' : Nat → Prop) (w w' : World) : Prop :=
  ∀ b, S b → (∃ o v, w.cell? ⟨b, o, none⟩ = some v) → S' b ∧ ∀ o v, w.cell? ⟨b, o, none⟩ = some v → w'.cell? ⟨b, o, none⟩ = some v

theorem CellsAt.keep {w w' : World} {b off : Nat} {vs : List Value} (h : CellsAt w b off vs)
    (k : ∀ o v, w.cell? ⟨b, o, none⟩ = some v → w'.cell? ⟨b, o, none⟩ = some v) : CellsAt w' b off vs := fun j v hj => k _ _ (h j v hj)

theorem CellsAt.some {w : World} {b off : Nat} {vs : List Value} (h : CellsAt w b off vs) (hn : 0 < vs.length) : ∃ o v, w.cell? ⟨b, o, none⟩ = some v :=
  ⟨off + 0, vs[0], h 0 _ (by simp)⟩

theorem DRep.keep {S S' : Nat → Prop} {w w' : World} (k : Keeps S S' w w') : ∀ {t : Ty} {x : den t} {vs : List Value}, DRep S w t x vs → DRep S' w' t x vs
  | .int _, _, _, h => h
  | .bool, _, _, h => h
  | .str, _, _, h => h
  | .list t, xs, vs, h => by
    obtain ⟨a, cap, rfl, hl, h⟩ := h
    refine ⟨a, cap, rfl, hl, ?_⟩
    rcases h with h | ⟨b, off, rfl, hS, h⟩
    · exact .inl h
    · cases xs with
      | nil => exact .inl rfl
      | cons x0 xs =>
        obtain ⟨cs0, hc0, hcell0, _⟩ := h 0 x0 rfl
        have hk := k b hS (hcell0.some (by rw [hc0]; exact nc_pos t))
        refine .inr ⟨b, off, rfl, hk.1, fun i x hi => ?_⟩
        obtain ⟨cs, hc, hcell, hd⟩ := h i x hi
        exact ⟨cs, hc, hcell.keep hk.2, DRep.keep k hd⟩
  | .prod a b, x, vs, h => by
    obtain ⟨v1, v2, rfl, h1, h2⟩ := h
    exact ⟨v1, v2, rfl, DRep.keep k h1, DRep.keep k h2⟩

theorem RelL.length {E : Env} {w : World} : ∀ {l : List AV} {vs : List Value}, RelL E w l vs → vs.length = l.length
  | [], vs, h => by simp only [RelL] at h; subst h; rfl
  | a :: l, vs, h => by simp only [RelL] at h; obtain ⟨v, us, rfl, _, h⟩ := h; simp [RelL.length h]

theorem RelL.get {E : Env} {w : World} : ∀ {l : List AV} {vs : List Value} (h : RelL E w l vs) (n : Nat), Rel E w (lget l n) (vs.getD n undef)
  | [], vs, h, n => by cases n <;> simp [lget, Rel]
  | a :: l, vs, h, n => by
    simp only [RelL] at h
    obtain ⟨v, us, rfl, h1, h⟩ := h
    cases n with
    | zero => exact h1
    | succ n => simpa [lget] using RelL.get h n

theorem RelL.get? {E : Env} {w : World} : ∀ {l : List AV} {vs : List Value} (h : RelL E w l vs) (n : Nat), n < l.length → ∃ v, vs[n]? = some v ∧ Rel E w (lget l n) v
  | [], vs, h, n, hn => by simp at hn
  | a :: l, vs, h, n, hn => by
    simp only [RelL] at h
    obtain ⟨v, us, rfl, h1, h⟩ := h
    cases n with
    | zero => exact ⟨v, rfl, h1⟩
    | succ n => simpa [lget] using RelL.get? h n (by simpa using hn)

theorem RelL.set {E : Env} {w : World} : ∀ {l : List AV} {vs : List Value} (h : RelL E w l vs) (n : Nat) {a : AV} {v : Value} (hv : Rel E w a v), RelL E w (lset l n a) (vs.set n v)
  | [], vs, h, n, a, v, hv => by simp only [RelL] at h; subst h; simp [lset, RelL]
  | b :: l, vs, h, n, a, v, hv => by
    simp only [RelL] at h
    obtain ⟨u, us, rfl, h1, h⟩ := h
    cases n with
    | zero => exact ⟨v, us, rfl, hv, h⟩
    | succ n => exact ⟨u, us.set n v, rfl, h1, RelL.set h n hv⟩

theorem RelL.app {E : Env} {w : World} : ∀ {l m : List AV} {vs us : List Value}, RelL E w l vs → RelL E w m us → RelL E w (app l m) (vs ++ us)
  | [], m, vs, us, h, k => by simp only [RelL] at h; subst h; simpa [Sx.app] using k
  | a :: l, m, vs, us, h, k => by
    simp only [RelL] at h
    obtain ⟨v, us', rfl, h1, h⟩ := h
    exact ⟨v, us' ++ us, rfl, h1, RelL.app h k⟩

theorem RelL.drop {E : Env} {w : World} : ∀ (n : Nat) {l : List AV} {vs : List Value}, RelL E w l vs → RelL E w (ldrop n l) (vs.drop n)
  | 0, l, vs, h => by simpa [ldrop] using h
  | n + 1, [], vs, h => by simp only [RelL] at h; subst h; simp [ldrop, RelL]
  | n + 1, a :: l, vs, h => by
    simp only [RelL] at h
    obtain ⟨v, us, rfl, _, h⟩ := h
    simpa [ldrop] using RelL.drop n h

theorem RelL.take {E : Env} {w : World} : ∀ (n : Nat) {l : List AV} {vs : List Value}, RelL E w l vs → RelL E w (ltake n l) (vs.take n)
  | 0, l, vs, h => by simp [ltake, RelL]
  | n + 1, [], vs, h => by simp only [RelL] at h; subst h; simp [ltake, RelL]
  | n + 1, a :: l, vs, h => by
    simp only [RelL] at h
    obtain ⟨v, us, rfl, h1, h⟩ := h
    exact ⟨v, us.take n, rfl, h1, RelL.take n h⟩

theorem RelL.rep {E : Env} {w : World} {a : AV} {v : Value} (h : Rel E w a v) : ∀ n, RelL E w (rep a n) (List.replicate n v)
  | 0 => rfl
  | n + 1 => ⟨v, _, rfl, h, RelL.rep h n⟩

theorem RelL.put {E : Env} {w : World} : ∀ {cs : List AV} {us : List Value} {l : List AV} {vs : List Value} (n : Nat), RelL E w l vs → RelL E w cs us →
    RelL E w (lput l n cs) ((us.zipIdx n).foldl (fun vs (u, j) => vs.set j u) vs)
  | [], us, l, vs, n, h, k => by simp only [RelL] at k; subst k; simpa [lput] using h
  | a :: cs, us, l, vs, n, h, k => by
    simp only [RelL] at k
    obtain ⟨u, us', rfl, h1, k⟩ := k
    simpa [lput, List.zipIdx_cons] using RelL.put (n + 1) (h.set n h1) k

/-- Keeping of values: killed where they name what has gone. -/
def EKeep (E : Env) (w : World) (E' : Env) (w' : World) (k1 k2 : List Nat) : Prop :=
  (∀ i, i ∉ k1 → ∀ b, E.bl i = some b → E'.bl i = some b) ∧ (∀ i, i ∉ k1 → E'.sl i = E.sl i) ∧
  (∀ src, (∀ i ∈ src, i ∉ k2) → Keeps (E.ok src) (E'.ok src) w w')

theorem hits_false {k2 : List Nat} : ∀ {src : List Nat}, hits src k2 = false → ∀ i ∈ src, i ∉ k2 := by
  have hm : ∀ (l : List Nat) n, memb n l = false → n ∉ l := by
    intro l
    induction l with
    | nil => intro n _; simp
    | cons a l ih =>
      intro n h
      simp only [memb] at h
      cases hb : Nat.beq n a with
      | true => rw [hb] at h; cases h
      | false =>
        rw [hb] at h
        have h1 : n ≠ a := by intro e; subst e; simp at hb
        simp [h1, ih n h]
  intro src
  induction src with
  | nil => intro _ i hi; cases hi
  | cons a l ih =>
    intro h i hi
    simp only [hits] at h
    cases hb : memb a k2 with
    | true => rw [hb] at h; cases h
    | false =>
      rw [hb] at h
      cases hi with
      | head => exact hm _ _ hb
      | tail _ hi => exact ih h i hi

theorem memb_false {l : List Nat} {n : Nat} (h : memb n l = false) : n ∉ l := by
  have := @hits_false l [n] (by simp [hits, h])
  exact this n (by simp)

mutual
theorem Rel.keep {E E' : Env} {w w' : World} {k1 k2 : List Nat} (k : EKeep E w E' w' k1 k2) : ∀ {a : AV} {v : Value}, Rel E w a v → Rel E' w' (kill k1 k2 a) v
  | .bad, v, h => by simp [kill, Rel]
  | .und, v, h => by simpa [kill, Rel] using h
  | .int _ _, v, h => by simpa [kill, Rel] using h
  | .bool _, v, h => by simpa [kill, Rel] using h
  | .str _, v, h => by simpa [kill, Rel] using h
  | .nilp, v, h => by simpa [kill, Rel] using h
  | .nsl _, v, h => by simpa [kill, Rel] using h
  | .nilfn, v, h => by simpa [kill, Rel] using h
  | .nilif, v, h => by simpa [kill, Rel] using h
  | .view src t xs, v, h => by
    simp only [kill]
    cases hh : hits src k2 with
    | true => simp [Rel]
    | false =>
      simp only [Rel] at h ⊢
      exact DRep.keep (t := .list t) (k.2.2 src (hits_false hh)) h
  | .vptr src cells, v, h => by
    simp only [kill]
    cases hh : hits src k2 with
    | true => simp [Rel]
    | false =>
      simp only [Rel] at h ⊢
      obtain ⟨b, off, vs, rfl, hok, hc, hr, hne⟩ := h
      have hl : 0 < vs.length := by rw [hr.length]; exact List.length_pos_iff.2 hne
      have hk := k.2.2 src (hits_false hh) b hok (hc.some hl)
      refine ⟨b, off, vs, rfl, hk.1, hc.keep hk.2, RelL.keep k hr, ?_⟩
      cases cells with
      | nil => exact absurd rfl hne
      | cons a l => simp [killL]
  | .ptr i off, v, h => by
    simp only [kill]
    cases hh : memb i k1 with
    | true => simp [Rel]
    | false =>
      simp only [Rel] at h ⊢
      obtain ⟨b, hb, rfl⟩ := h
      exact ⟨b, k.1 i (memb_false hh) b hb, rfl⟩
  | .vsl i off len cap, v, h => by
    simp only [kill]
    cases hh : memb i k1 with
    | true => simp [Rel]
    | false =>
      simp only [Rel] at h ⊢
      obtain ⟨b, hb, rfl⟩ := h
      exact ⟨b, k.1 i (memb_false hh) b hb, rfl⟩
  | .own i, v, h => by
    simp only [kill]
    cases hh : memb i k1 with
    | true => simp [Rel]
    | false =>
      simp only [Rel] at h ⊢
      rw [k.2.1 i (memb_false hh)]; exact h
  | .sub i n, v, h => by
    simp only [kill]
    cases hh : memb i k1 with
    | true => simp [Rel]
    | false =>
      simp only [Rel] at h ⊢
      rw [k.2.1 i (memb_false hh)]; exact h
  | .rptr i t idx off, v, h => by
    simp only [kill]
    cases hh : memb i k1 with
    | true => simp [Rel]
    | false =>
      simp only [Rel] at h ⊢
      obtain ⟨b, hb, rfl⟩ := h
      exact ⟨b, k.1 i (memb_false hh) b hb, rfl⟩
  | .agg l, v, h => by
    simp only [kill, Rel] at h ⊢
    obtain ⟨vs, rfl, h⟩ := h
    exact ⟨vs, rfl, RelL.keep k h⟩
  | .tup l, v, h => by
    simp only [kill, Rel] at h ⊢
    obtain ⟨vs, rfl, h⟩ := h
    exact ⟨vs, rfl, RelL.keep k h⟩
  | .fn f l m, v, h => by
    simp only [kill, Rel] at h ⊢
    obtain ⟨a, b, rfl, h1, h2⟩ := h
    exact ⟨a, b, rfl, RelL.keep k h1, RelL.keep k h2⟩
  | .iface t x, v, h => by
    simp only [kill, Rel] at h ⊢
    obtain ⟨u, rfl, h⟩ := h
    exact ⟨u, rfl, Rel.keep k h⟩
theorem RelL.keep {E E' : Env} {w w' : World} {k1 k2 : List Nat} (k : EKeep E w E' w' k1 k2) : ∀ {l : List AV} {vs : List Value}, RelL E w l vs → RelL E' w' (killL k1 k2 l) vs
  | [], vs, h => by simpa [killL, RelL] using h
  | a :: l, vs, h => by
    simp only [killL, RelL] at h ⊢
    obtain ⟨v, us, rfl, h1, h⟩ := h
    exact ⟨v, us, rfl, Rel.keep k h1, RelL.keep k h⟩
end

mutual
theorem kill_nil : ∀ a : AV, kill [] [] a = a
  | .view src t xs => by simp only [kill]; rw [hits_nil]
  | .vptr src cells => by simp only [kill]; rw [hits_nil]; simp only [killL_nil]
  | .ptr i off => by simp [kill, memb]
  | .vsl i a b c => by simp [kill, memb]
  | .own i => by simp [kill, memb]
  | .sub i n => by simp [kill, memb]
  | .rptr i t a b => by simp [kill, memb]
  | .agg l => by simp only [kill, killL_nil]
  | .tup l => by simp only [kill, killL_nil]
  | .fn f a b => by simp only [kill, killL_nil]
  | .iface t v => by simp only [kill, kill_nil v]
  | .bad | .und | .int _ _ | .bool _ | .str _ | .nilp | .nsl _ | .nilfn | .nilif => by simp [kill]
theorem killL_nil : ∀ l : List AV, killL [] [] l = l
  | [] => rfl
  | a :: l => by simp only [killL, kill_nil a, killL_nil l]
theorem hits_nil : ∀ src : List Nat, hits src [] = false
  | [] => rfl
  | a :: l => by simp only [hits, memb]; exact hits_nil l
end

end Go.Proofs.Ytkdemkkepepbdaa.Sx
