/- Ytbgifokhlbaapaa: the law ModeWorse returns true for every input, and its arguments read as they did: no condition. -/
import Derived.Test.YtbgifokhlbaapaaRows
import Derived.Test.YtbgifokhlbaapaaSxV
import Derived.Test.YtbgifokhlbaapaaSmMode
import Derived.HandedShaped
namespace Go.Proofs.Ytbgifokhlbaapaa
open Go.ChangeShapes Go.WideShapes Go.ChangeAt Go.RowKit Sx
set_option maxRecDepth 100000
set_option linter.unusedVariables false
set_option linter.unusedSimpArgs false
set_option maxHeartbeats 4000000

theorem ModeWorse_eq (t a b c : Int) (d r : Bool) (x y z : Int) : acall tab specs fns 100 20 3 [.int .i64 t, .agg [.int .i64 a, .int .i64 b, .int .i64 c, .bool d], .bool r, .int .i64 x, .int .i64 y, .int .i64 z] [] (fun o _ _ _ => o = .ret (.bool true)) =
  (ifB (ltB t 0) (AOut.ret (AV.bool true) = AOut.ret (AV.bool true))
    (ifB (ltB 3 t) (AOut.ret (AV.bool true) = AOut.ret (AV.bool true))
      (ifB (ltB x 0) (AOut.ret (AV.bool true) = AOut.ret (AV.bool true))
      (ifB (ltB y 0) (AOut.ret (AV.bool true) = AOut.ret (AV.bool true))
      (ifB (ltB z 0) (AOut.ret (AV.bool true) = AOut.ret (AV.bool true))
      (ifB (ltB 1000 x) (AOut.ret (AV.bool true) = AOut.ret (AV.bool true))
      (ifB (ltB 1000 y) (AOut.ret (AV.bool true) = AOut.ret (AV.bool true))
      (ifB (ltB 1000 z) (AOut.ret (AV.bool true) = AOut.ret (AV.bool true))
      (ifB (ltB 1099511627776 b) (AOut.ret (AV.bool true) = AOut.ret (AV.bool true))
      (ifB (ltB 1099511627776 c) (AOut.ret (AV.bool true) = AOut.ret (AV.bool true))
      (ifB (ltB a (-1099511627776)) (AOut.ret (AV.bool true) = AOut.ret (AV.bool true))
      (eqI t t
      (eqI a a
      (eqI b b
      (eqI c c
      (eqL d d
      (eqL r r
      (eqI t t
      (eqI (subW IntKind.i64 a x) (subW IntKind.i64 a x)
      (eqI (addW IntKind.i64 b y) (addW IntKind.i64 b y)
      (eqI (addW IntKind.i64 c z) (addW IntKind.i64 c z)
      (eqL d d
      (eqL r r
      (eqI t t
      (eqI (subW IntKind.i64 a x) (subW IntKind.i64 a x)
      (eqI (addW IntKind.i64 b y) (addW IntKind.i64 b y)
      (eqI (addW IntKind.i64 c z) (addW IntKind.i64 c z)
      (eqL d d
      (eqL r r
      (ifB
      (leB (nextF t a b c d r)
      (nextF t (subW IntKind.i64 a x) (addW IntKind.i64 b y)
      (addW IntKind.i64 c z) d r))
      (ifB
      (leB
      (nextF t (subW IntKind.i64 a x) (addW IntKind.i64 b y)
      (addW IntKind.i64 c z) d r)
      (nextF t (subW IntKind.i64 a x) (addW IntKind.i64 b y)
      (addW IntKind.i64 c z) false r))
      (ifB r
      (AOut.ret (AV.bool true) = AOut.ret (AV.bool true))
      (AOut.ret
      (AV.bool
      (leB (nextF t a b c d true)
      (nextF t a b c d r))) =
      AOut.ret (AV.bool true)))
      (AOut.ret (AV.bool false) = AOut.ret (AV.bool true)))
      (AOut.ret (AV.bool false) =
      AOut.ret (AV.bool true)))))))))))))))))))))))))))))))) := by kernel_rfl
theorem nextF_worse {k a b c a' b' c' : Int} {d r : Bool} (h1 : a' ≤ a) (h2 : b ≤ b') (h3 : c ≤ c') (hk : 0 ≤ k ∧ k ≤ 3) : nextF k a b c d r ≤ nextF k a' b' c' d r := by
  have hc : calmF a' b' c' d = true → calmF a b c d = true := by
    simp only [calmF, Bool.and_eq_true, decide_eq_true_eq]
    rintro ⟨⟨⟨g1, g2⟩, g3⟩, g4⟩
    exact ⟨⟨⟨by omega, by omega⟩, by omega⟩, g4⟩
  unfold nextF
  generalize calmF a b c d = x at hc ⊢
  generalize calmF a' b' c' d = y at hc ⊢
  cases x <;> cases y <;> simp at hc <;> cases d <;> cases r <;> simp <;> (repeat' split) <;> omega
theorem nextF_heard {k a b c : Int} {d r : Bool} (hk : 0 ≤ k ∧ k ≤ 3) : nextF k a b c d r ≤ nextF k a b c false r := by
  have hc : calmF a b c false = false := by simp [calmF]
  unfold nextF
  rw [hc]
  generalize calmF a b c d = x
  cases x <;> cases d <;> cases r <;> simp <;> (repeat' split) <;> omega
theorem nextF_rested {k a b c : Int} {d : Bool} (hk : 0 ≤ k ∧ k ≤ 3) : nextF k a b c d true ≤ nextF k a b c d false := by
  unfold nextF
  generalize calmF a b c d = x
  cases x <;> cases d <;> simp <;> (repeat' split) <;> omega
theorem wrap64 {a : Int} (h1 : -9223372036854775808 ≤ a) (h2 : a ≤ 9223372036854775807) : IntKind.wrap .i64 a = a := by
  have h64 : (2 : Int) ^ IntKind.bits .i64 = 18446744073709551616 := by decide
  have h63 : (2 : Int) ^ (IntKind.bits .i64 - 1) = 9223372036854775808 := by decide
  simp only [IntKind.wrap, h64, h63, show IntKind.signed .i64 = true from rfl, Bool.true_and]
  split <;> rename_i h <;> simp at h <;> omega
theorem has64 {a : Int} : IntKind.has .i64 a ↔ -9223372036854775808 ≤ a ∧ a ≤ 9223372036854775807 := by
  have h1 : IntKind.min .i64 = -9223372036854775808 := by decide
  have h2 : IntKind.max .i64 = 9223372036854775807 := by decide
  simp [IntKind.has, h1, h2]
theorem ModeWorse_go (t a b c : Int) (d r : Bool) (x y z : Int) (ha : -9223372036854775808 ≤ a ∧ a ≤ 9223372036854775807) (hb : -9223372036854775808 ≤ b ∧ b ≤ 9223372036854775807) (hc : -9223372036854775808 ≤ c ∧ c ≤ 9223372036854775807) :
    LawEv (acall tab specs fns 100 20) 3 (argsA tab #[3, 23, 4, 3, 3, 3].toList [(.int .i64), (.prod (.int .i64) (.prod (.int .i64) (.prod (.int .i64) .bool))), .bool, (.int .i64), (.int .i64), (.int .i64)] (t, (a, b, c, d), r, x, y, z, ())) := by
  refine ⟨(ModeWorse_eq t a b c d r x y z).mpr ?_⟩
  simp only [ifB_and, ltB, leB, eqI, eqL, decide_eq_true_eq, decide_eq_false_iff_not, true_and, implies_true, AOut.ret.injEq, AV.bool.injEq]
  intro g1 g2 g3 g4 g5 g6 g7 g8 g9 g10 g11
  have e1 : subW .i64 a x = a - x := wrap64 (by omega) (by omega)
  have e2 : addW .i64 b y = b + y := wrap64 (by omega) (by omega)
  have e3 : addW .i64 c z = c + z := wrap64 (by omega) (by omega)
  have hk : 0 ≤ t ∧ t ≤ 3 := ⟨by omega, by omega⟩
  rw [e1, e2, e3]
  have w1 := nextF_worse (k := t) (a := a) (b := b) (c := c) (a' := a - x) (b' := b + y) (c' := c + z) (d := d) (r := r) (by omega) (by omega) (by omega) hk
  have w2 := nextF_heard (k := t) (a := a - x) (b := b + y) (c := c + z) (d := d) (r := r) hk
  have w3 := nextF_rested (k := t) (a := a) (b := b) (c := c) (d := d) hk
  refine ⟨fun _ => ⟨fun _ => fun hr => ?_, fun h => absurd w2 h⟩, fun h => absurd w1 h⟩
  rw [hr]
  exact w3
theorem ModeWorse_ev : ∀ xs : DT [(.int .i64), (.prod (.int .i64) (.prod (.int .i64) (.prod (.int .i64) .bool))), .bool, (.int .i64), (.int .i64), (.int .i64)], wfs [(.int .i64), (.prod (.int .i64) (.prod (.int .i64) (.prod (.int .i64) .bool))), .bool, (.int .i64), (.int .i64), (.int .i64)] xs → LawEv (acall tab specs fns 100 20) 3 (argsA tab #[3, 23, 4, 3, 3, 3].toList [(.int .i64), (.prod (.int .i64) (.prod (.int .i64) (.prod (.int .i64) .bool))), .bool, (.int .i64), (.int .i64), (.int .i64)] xs) := by
  rintro ⟨t, ⟨a, b, c, d⟩, r, x, y, z, ⟨⟩⟩ hwf
  simp only [wfs, wfT, has64] at hwf
  exact ModeWorse_go t a b c d r x y z hwf.2.1.1 hwf.2.1.2.1 hwf.2.1.2.2.1


theorem ModeWorse_own : ownKnob Try.prog.godebug = none := by kernel_rfl
theorem ModeWorse_kids : Kids Try.prog (· < Try.prog.types.size) := kids_rows (by kernel_rfl) (by kernel_rfl)
theorem ModeWorse_full : ∀ t e, t < Try.prog.types.size → Try.prog.underlying t = some (.slice e) → 0 < Try.prog.cellsOf e := slices_full_of _ (by kernel_rfl)

theorem ModeWorse_lifted (os : Os) (started : os.Started) (H : Type) (enc : TypeId × Value → H) :
    ReturnsInHanded {} Try.checked os 3 .any (Rows.modeWorseSpec.pre6 enc Try.prog Try.f3 Rows.modeWorseRow.domain false) (Rows.modeWorseSpec.post enc Try.prog Try.f3 false true false false) := by
  refine returnsInHanded_of_change_shaped (C := Try.checked) ModeWorse_own started (by kernel_rfl) Try.func3
    (ChangeSpec.witness6 (enc := enc) (C := Try.checked) false ⟨#[], #[(Value.int IntKind.i64 0), (Value.agg #[(Value.int IntKind.i64 0), (Value.int IntKind.i64 0), (Value.int IntKind.i64 0), (Value.bool Bool.false)]), (Value.bool Bool.false), (Value.int IntKind.i64 0), (Value.int IntKind.i64 0), (Value.int IntKind.i64 0)], []⟩ 8 (by kernel_rfl) (by kernel_rfl) (by kernel_rfl) (by kernel_rfl)) ?_
  intro W base args ds gs before hval hW _ hwt _ _
  refine law_contract' (P := Try.prog) (fn := Try.f3) (s := Rows.modeWorseSpec) (tb := 4) (Ts := [(.int .i64), (.prod (.int .i64) (.prod (.int .i64) (.prod (.int .i64) .bool))), .bool, (.int .i64), (.int .i64), (.int .i64)]) (call := (acall tab specs fns 100 20)) (f := 3) tabOK callS ModeWorse_kids ModeWorse_full Try.params3 (by decide +kernel) rfl rfl Try.underlying4 ?_ (by kernel_rfl) ModeWorse_ev hval hW hwt
  intro ds hl
  match ds, hl with
  | [d0, d1, d2, d3, d4, d5], _ => rfl

theorem ModeWorse_holds : Rows.ModeWorseSaid :=
  OpenClaim.holds_of_wide 3 Try.f3 rfl rfl rfl rfl rfl rfl rfl ⟨rfl, rfl, rfl, rfl, rfl⟩ rfl rfl rfl rfl rfl (by kernel_rfl) Try.func3 (by kernel_rfl)
    (of_decide_eq_true (by kernel_rfl)) (by unfold Func.isWrapper; first | (rw [if_pos (by decide +kernel)]; kernel_rfl) | (rw [if_neg (by decide +kernel)]; exact ⟨rfl, rfl⟩))
    (fun os started H enc _ => ModeWorse_lifted os started H enc)

end Go.Proofs.Ytbgifokhlbaapaa
