/- All rules; a first call. -/
import Derived.Test.YtkdemkkepepbdaaSmPeepE
namespace Go.Proofs.Ytkdemkkepepbdaa.Sx
open Go.RowKit
set_option maxRecDepth 100000
set_option maxHeartbeats 4000000
set_option linter.unusedVariables false
set_option linter.unusedSimpArgs false
noncomputable def rulesS : List AV → List Blk → AK → Prop := fun args m K => match args, m with | [], [] => K (.ret (.vsl 0 0 7 7)) [.var R7] [] [] | _, _ => False
theorem rules_eq (K : AK) : acall tab fs_concat specs_run7 fns 100 20 6 [] [] K =
  (K (AOut.ret (AV.vsl 0 0 7 7)) (Blk.var (AV.fn (Fn.func 16) ([]) (AV.vptr [] (AV.view [] CodeT (@List.nil (den CodeT)) :: []) :: AV.vptr [] (AV.int IntKind.i64 3
    :: []) :: []) :: AV.fn (Fn.func 16) ([]) (AV.vptr [] (AV.view [] CodeT (((1 : Int), (0 : Int), (0 : Int), (0 : Int)) :: @List.nil (den CodeT)) :: []) :: AV.vptr
    [] (AV.int IntKind.i64 0 :: []) :: []) :: AV.fn (Fn.func 16) ([]) (AV.vptr [] (AV.view [] CodeT (((0 : Int), (0 : Int), (0 : Int), (0 : Int)) :: @List.nil (den CodeT))
    :: []) :: AV.vptr [] (AV.int IntKind.i64 1 :: []) :: []) :: AV.fn (Fn.func 18) ([]) (AV.vptr [] (AV.bool false :: []) :: []) :: AV.fn (Fn.func 18) ([]) (AV.vptr
    [] (AV.bool true :: []) :: []) :: AV.fn (Fn.func 20) ([]) (AV.vptr [] (AV.bool false :: []) :: []) :: AV.fn (Fn.func 20) ([]) (AV.vptr [] (AV.bool true :: []) ::
    []) :: []) :: []) [] []) := by kernel_rfl
theorem rules_ok : SpecOK Try.prog 6 rulesS := specOK_of (mkCall fsOK_concat specsOK_run7 fnsOK) (fun vs w => Try.call6 vs w) fun args m K h hw hwm => by
  unfold rulesS at h
  split at h
  · rw [rules_eq]
    refine ⟨?_⟩
    simp only [wfAL, wfA, wfS, wfM, wfB, and_true, true_and, wfT_int, wfT_str, wfT_bool, wfT_prod] at hw hwm
    exact h
  · exact h.elim
noncomputable def SP_rules : List AV → List Blk → AK → Prop := (frameS rulesS)
theorem SPok_rules : SpecOK Try.prog 6 SP_rules := (frame_ok rules_ok)
noncomputable def specs_rules : Specs := (6, SP_rules) :: specs_run7
theorem specsOK_rules : SpecsOK Try.prog specs_rules := specsOK_cons SPok_rules specsOK_run7
theorem run_at {ks : List Rul} {l x : List (den CodeT)} {n : Nat} (hn : n ≤ 1000) (h : runL ks l n = x) (hb : onceB ks x = false) : runE ks l = x := by
  have := run_stop (ks := ks) (l := l) (n := n) (by rw [h]; exact hb) (1000 - n)
  have e : n + (1000 - n) = 1000 := by omega
  rw [e, h] at this
  exact this
theorem al1 : runE allK [((2 : Int), (0 : Int), (0 : Int), (0 : Int)), ((3 : Int), (0 : Int), (0 : Int), (0 : Int)), ((3 : Int), (0 : Int), (0 : Int), (0 : Int))] = [((2 : Int), (0 : Int), (0 : Int), (0 : Int))] := run_at (n := 1) (by omega) (by kernel_rfl) (by kernel_rfl)
theorem al2 : runE allK [((0 : Int), (0 : Int), (0 : Int), (0 : Int)), ((3 : Int), (0 : Int), (0 : Int), (0 : Int)), ((8 : Int), (0 : Int), (0 : Int), (0 : Int))] = [((1 : Int), (0 : Int), (0 : Int), (0 : Int)), ((8 : Int), (0 : Int), (0 : Int), (0 : Int))] := run_at (n := 1) (by omega) (by kernel_rfl) (by kernel_rfl)
noncomputable def aliveS : List AV → OV := fun args => match args with | [] => some ([], .bool true) | _ => none
theorem alive_eq  : acall tab fs_concat specs_rules fns 100 20 5 [] [] (fun o mm _ _ => resN (.any) mm o = .ret (.bool true)) =
  (needr (AV.fn (Fn.func 16) ([]) (AV.vptr [] (AV.view [] CodeT (@List.nil (den CodeT)) :: []) :: AV.vptr [] (AV.int IntKind.i64 3 :: []) :: []) :: AV.fn (Fn.func 16)
    ([]) (AV.vptr [] (AV.view [] CodeT (((1 : Int), (0 : Int), (0 : Int), (0 : Int)) :: @List.nil (den CodeT)) :: []) :: AV.vptr [] (AV.int IntKind.i64 0 :: []) :: [])
    :: AV.fn (Fn.func 16) ([]) (AV.vptr [] (AV.view [] CodeT (((0 : Int), (0 : Int), (0 : Int), (0 : Int)) :: @List.nil (den CodeT)) :: []) :: AV.vptr [] (AV.int IntKind.i64
    1 :: []) :: []) :: AV.fn (Fn.func 18) ([]) (AV.vptr [] (AV.bool false :: []) :: []) :: AV.fn (Fn.func 18) ([]) (AV.vptr [] (AV.bool true :: []) :: []) :: AV.fn (Fn.func
    20) ([]) (AV.vptr [] (AV.bool false :: []) :: []) :: AV.fn (Fn.func 20) ([]) (AV.vptr [] (AV.bool true :: []) :: []) :: []) (need (smallC (((2 : Int), (0 : Int),
    (0 : Int), (0 : Int)) :: ((3 : Int), (0 : Int), (0 : Int), (0 : Int)) :: ((3 : Int), (0 : Int), (0 : Int), (0 : Int)) :: @List.nil (den CodeT))) (needr (AV.fn (Fn.func
    16) ([]) (AV.vptr [] (AV.view [] CodeT (@List.nil (den CodeT)) :: []) :: AV.vptr [] (AV.int IntKind.i64 3 :: []) :: []) :: AV.fn (Fn.func 16) ([]) (AV.vptr [] (AV.view
    [] CodeT (((1 : Int), (0 : Int), (0 : Int), (0 : Int)) :: @List.nil (den CodeT)) :: []) :: AV.vptr [] (AV.int IntKind.i64 0 :: []) :: []) :: AV.fn (Fn.func 16) ([])
    (AV.vptr [] (AV.view [] CodeT (((0 : Int), (0 : Int), (0 : Int), (0 : Int)) :: @List.nil (den CodeT)) :: []) :: AV.vptr [] (AV.int IntKind.i64 1 :: []) :: []) ::
    AV.fn (Fn.func 18) ([]) (AV.vptr [] (AV.bool false :: []) :: []) :: AV.fn (Fn.func 18) ([]) (AV.vptr [] (AV.bool true :: []) :: []) :: AV.fn (Fn.func 20) ([]) (AV.vptr
    [] (AV.bool false :: []) :: []) :: AV.fn (Fn.func 20) ([]) (AV.vptr [] (AV.bool true :: []) :: []) :: []) (need (smallC (((0 : Int), (0 : Int), (0 : Int), (0 : Int))
    :: ((3 : Int), (0 : Int), (0 : Int), (0 : Int)) :: ((8 : Int), (0 : Int), (0 : Int), (0 : Int)) :: @List.nil (den CodeT))) (need (impB (eqB (lenI (runE allK (((2
    : Int), (0 : Int), (0 : Int), (0 : Int)) :: ((3 : Int), (0 : Int), (0 : Int), (0 : Int)) :: ((3 : Int), (0 : Int), (0 : Int), (0 : Int)) :: @List.nil (den CodeT))))
    1) (inI 0 (lenI (runE allK (((2 : Int), (0 : Int), (0 : Int), (0 : Int)) :: ((3 : Int), (0 : Int), (0 : Int), (0 : Int)) :: ((3 : Int), (0 : Int), (0 : Int), (0
    : Int)) :: @List.nil (den CodeT)))))) (need (impB (selB (selB (eqB (lenI (runE allK (((2 : Int), (0 : Int), (0 : Int), (0 : Int)) :: ((3 : Int), (0 : Int), (0 :
    Int), (0 : Int)) :: ((3 : Int), (0 : Int), (0 : Int), (0 : Int)) :: @List.nil (den CodeT)))) 1) (eqB (nth CodeT (runE allK (((2 : Int), (0 : Int), (0 : Int), (0
    : Int)) :: ((3 : Int), (0 : Int), (0 : Int), (0 : Int)) :: ((3 : Int), (0 : Int), (0 : Int), (0 : Int)) :: @List.nil (den CodeT))) 0).fst 2) false) (eqB (lenI (runE
    allK (((0 : Int), (0 : Int), (0 : Int), (0 : Int)) :: ((3 : Int), (0 : Int), (0 : Int), (0 : Int)) :: ((8 : Int), (0 : Int), (0 : Int), (0 : Int)) :: @List.nil (den
    CodeT)))) 2) false) (inI 0 (lenI (runE allK (((0 : Int), (0 : Int), (0 : Int), (0 : Int)) :: ((3 : Int), (0 : Int), (0 : Int), (0 : Int)) :: ((8 : Int), (0 : Int),
    (0 : Int), (0 : Int)) :: @List.nil (den CodeT)))))) (AOut.ret (AV.bool (selB (selB (selB (selB (eqB (lenI (runE allK (((2 : Int), (0 : Int), (0 : Int), (0 : Int))
    :: ((3 : Int), (0 : Int), (0 : Int), (0 : Int)) :: ((3 : Int), (0 : Int), (0 : Int), (0 : Int)) :: @List.nil (den CodeT)))) 1) (eqB (nth CodeT (runE allK (((2 :
    Int), (0 : Int), (0 : Int), (0 : Int)) :: ((3 : Int), (0 : Int), (0 : Int), (0 : Int)) :: ((3 : Int), (0 : Int), (0 : Int), (0 : Int)) :: @List.nil (den CodeT)))
    0).fst 2) false) (eqB (lenI (runE allK (((0 : Int), (0 : Int), (0 : Int), (0 : Int)) :: ((3 : Int), (0 : Int), (0 : Int), (0 : Int)) :: ((8 : Int), (0 : Int), (0
    : Int), (0 : Int)) :: @List.nil (den CodeT)))) 2) false) (eqB (nth CodeT (runE allK (((0 : Int), (0 : Int), (0 : Int), (0 : Int)) :: ((3 : Int), (0 : Int), (0 :
    Int), (0 : Int)) :: ((8 : Int), (0 : Int), (0 : Int), (0 : Int)) :: @List.nil (den CodeT))) 0).fst 1) false) (sameC (runE allK (((2 : Int), (0 : Int), (0 : Int),
    (0 : Int)) :: ((3 : Int), (0 : Int), (0 : Int), (0 : Int)) :: ((3 : Int), (0 : Int), (0 : Int), (0 : Int)) :: @List.nil (den CodeT))) (runE allK (((2 : Int), (0
    : Int), (0 : Int), (0 : Int)) :: ((3 : Int), (0 : Int), (0 : Int), (0 : Int)) :: ((3 : Int), (0 : Int), (0 : Int), (0 : Int)) :: @List.nil (den CodeT)))) false))
    = AOut.ret (AV.bool true)))))))) := by kernel_rfl
theorem alive_ok : SpecOK Try.prog 5 (fspecS (pureN [] aliveS)) := pureN_ok (mkCall fsOK_concat specsOK_rules fnsOK) (.any) (fun vs w => Try.call5 vs w) fun args ps v h hp hw => by
  unfold aliveS at h
  split at h
  · cases h
    rw [alive_eq]
    refine ⟨?_⟩
    simp only [allP_cons, allP_nil, and_true] at hp
    simp only [wfAL, wfA, wfS, wfM, wfB, and_true, true_and, wfT_int, wfT_str, wfT_bool, wfT_prod] at hw
    rw [al1, al2]
    refine ⟨rfl, by unfold smallC lenI; simp, rfl, by unfold smallC lenI; simp, ?_, ?_, ?_⟩
    · rw [impB_def]; exact fun _ => ⟨by decide, by decide⟩
    · rw [impB_def]; exact fun _ => ⟨by decide, by decide⟩
    · have e : sameC [((2 : Int), (0 : Int), (0 : Int), (0 : Int))] [((2 : Int), (0 : Int), (0 : Int), (0 : Int))] = true := by unfold sameC; simp
      rw [e]; rfl
  · cases h
noncomputable def FF_alive : FSpec := pureN [] aliveS
theorem FFok_alive : SpecOK Try.prog 5 (fspecS FF_alive) := alive_ok
noncomputable def fs_alive : FS := (5, FF_alive) :: fs_concat
theorem fsOK_alive : FSOK Try.prog fs_alive := fsOK_cons FFok_alive fsOK_concat
theorem bad_tu {l : List (den CodeT)} {p f : Int} (h0 : 0 ≤ p) (h1 : p < lenI l) (hs : lenI l ≤ 1000) : selB (areF l p [f, 3]) (selB (ltB (lenI l) (addW .i64 p 2)) true false) false = false := by
  cases ha : areF l p [f, 3] with
  | false => rfl
  | true =>
    have h := (are_len ha).2
    have h : 2 ≤ lenI l - p := h
    have e : addW .i64 p 2 = p + 2 := addW64 (by omega) (by omega)
    rw [e, ltB_f.2 (by omega)]; rfl
theorem twins_at {b : Bool} {l : List (den CodeT)} {p : Int} (h : twinsC b l p = true) : 0 ≤ p ∧ 3 ≤ lenI l - p := by
  unfold twinsC at h
  simp only [Bool.and_eq_true, Bool.or_eq_true] at h
  rcases h.1.1 with h | h
  · exact are_len h
  · exact are_len h
theorem idle_at {l : List (den CodeT)} {p : Int} (h : idleA l p = true) : 0 ≤ p ∧ 2 ≤ lenI l - p := by
  unfold idleA at h
  simp only [Bool.or_eq_true] at h
  rcases h with h | h
  · exact are_len h
  · exact are_len h
theorem bad_tw {b : Bool} {l : List (den CodeT)} {p : Int} (h0 : 0 ≤ p) (h1 : p < lenI l) (hs : lenI l ≤ 1000) : selB (twinsC b l p) (selB (selB (ltB (twinsN b l p) 1) true (ltB (lenI l) (addW .i64 p (twinsN b l p)))) true (leB (twinsN b l p) (lenI (twinsL b l p)))) false = false := by
  cases ha : twinsC b l p with
  | false => rfl
  | true =>
    have h := twins_at ha
    have hn : twinsN b l p = 3 := by unfold twinsN; rw [if_pos ha]
    have hl := tw_le (b := b) (l := l) (i := p)
    have e : addW .i64 p 3 = p + 3 := addW64 (by omega) (by omega)
    rw [hn, e, ltB_f.2 (by omega), ltB_f.2 (by omega), leB_f.2 (by omega)]; rfl
theorem bad_id {b : Bool} {l : List (den CodeT)} {p : Int} (h0 : 0 ≤ p) (h1 : p < lenI l) (hs : lenI l ≤ 1000) : selB (idleC b l p) (selB (selB (ltB (idleN l p) 1) true (ltB (lenI l) (addW .i64 p (idleN l p)))) true (leB (idleN l p) (lenI (idleL b l p)))) false = false := by
  cases ha : idleC b l p with
  | false => rfl
  | true =>
    have hA : idleA l p = true := by unfold idleC at ha; simp only [Bool.and_eq_true] at ha; exact ha.1
    have h := idle_at hA
    have hn : idleN l p = 2 := by unfold idleN; rw [if_pos hA]
    have hl : lenI (idleL b l p) ≤ 1 := by unfold idleL; split <;> simp [lenI]
    have e : addW .i64 p 2 = p + 2 := addW64 (by omega) (by omega)
    rw [hn, e, ltB_f.2 (by omega), ltB_f.2 (by omega), leB_f.2 (by omega)]; rfl
end Go.Proofs.Ytkdemkkepepbdaa.Sx

