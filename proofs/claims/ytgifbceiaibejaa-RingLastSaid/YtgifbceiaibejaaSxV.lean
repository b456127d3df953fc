/- The table of the seat's types and functions fits the program. Printed by gentab.py. -/
import Derived.Test.YtgifbceiaibejaaChecked
import Derived.Test.YtgifbceiaibejaaSxT
import Derived.Test.YtgifbceiaibejaaSx9
namespace Go.Proofs.Ytgifbceiaibejaa.Sx
open Go.RowKit
set_option maxRecDepth 100000
set_option linter.unusedVariables false
set_option linter.unusedSimpArgs false
set_option maxHeartbeats 4000000
theorem info_of_run {P : Program} {t : TypeId} {i : TypeInfo} (h : ∀ w, (typeInfo t).run P w = .ok i w) : P.info? t = some i := by
  cases hi : P.info? t with
  | some j => have := h default; simp [Go.typeInfo, hi] at this; rw [this]
  | none => have := h default; simp [Go.typeInfo, hi] at this
def notBlank : TypeDesc → Bool
  | .struct fs => fs.toList.all fun f => f.name != "_"
  | _ => true
theorem eqs_ok {P : Program} {t : TypeId} {d : TypeDesc} {b : Bool} (h1 : P.eqGuardType P.depth t = false) (h2 : P.underlying t = some d) (h3 : P.stoodInHeld t = false ∨ ∀ fs, d ≠ .struct fs) (h4 : notBlank d = true) :
    b = true → P.eqGuardType P.depth t = false ∧ ∀ fs, P.underlying t = some (.struct fs) → P.stoodInHeld t = false ∧ ∀ f ∈ fs.toList, f.name ≠ "_" := by
  refine fun _ => ⟨h1, fun fs h => ?_⟩
  rw [h2] at h; cases h
  rcases h3 with h3 | h3
  · exact ⟨h3, fun f hf => by have := List.all_eq_true.1 h4 f hf; simpa using this⟩
  · exact absurd rfl (h3 fs)
theorem tabE0 : EntryOK Try.prog 0 ⟨.other, 1, 0, (Value.tuple #[]), false⟩ := ⟨⟨Try.t0, info_of_run Try.typeInfo0, rfl, rfl, rfl⟩, ⟨_, Try.underlying0, rfl⟩, fun h => by cases h⟩
theorem tabE1 : EntryOK Try.prog 1 ⟨.func, 1, 8, Value.nilFunc, false⟩ := ⟨⟨Try.t1, info_of_run Try.typeInfo1, rfl, rfl, rfl⟩, ⟨_, Try.underlying1, rfl⟩, fun h => by cases h⟩
theorem tabE2 : EntryOK Try.prog 2 ⟨.int .i64, 1, 8, (Value.int IntKind.i64 0), false⟩ := ⟨⟨Try.t2, info_of_run Try.typeInfo2, rfl, rfl, rfl⟩, ⟨_, Try.underlying2, rfl⟩, fun h => by cases h⟩
theorem tabE3 : EntryOK Try.prog 3 ⟨.int .i64, 1, 8, (Value.int IntKind.i64 0), false⟩ := ⟨⟨Try.t3, info_of_run Try.typeInfo3, rfl, rfl, rfl⟩, ⟨_, Try.underlying3, rfl⟩, fun h => by cases h⟩
theorem tabE4 : EntryOK Try.prog 4 ⟨.bool, 1, 1, (Value.bool Bool.false), false⟩ := ⟨⟨Try.t4, info_of_run Try.typeInfo4, rfl, rfl, rfl⟩, ⟨_, Try.underlying4, rfl⟩, fun h => by cases h⟩
theorem tabE5 : EntryOK Try.prog 5 ⟨.int .u8, 1, 1, (Value.int IntKind.u8 0), false⟩ := ⟨⟨Try.t5, info_of_run Try.typeInfo5, rfl, rfl, rfl⟩, ⟨_, Try.underlying5, rfl⟩, fun h => by cases h⟩
theorem tabE6 : EntryOK Try.prog 6 ⟨.int .u8, 1, 1, (Value.int IntKind.u8 0), false⟩ := ⟨⟨Try.t6, info_of_run Try.typeInfo6, rfl, rfl, rfl⟩, ⟨_, Try.underlying6, rfl⟩, fun h => by cases h⟩
theorem tabE7 : EntryOK Try.prog 7 ⟨.struct [(2, 0), (3, 1), (4, 2), (6, 3)], 4, 24, (Value.agg #[(Value.int IntKind.i64 0), (Value.int IntKind.i64 0), (Value.bool Bool.false), (Value.int IntKind.u8 0)]), false⟩ := ⟨⟨Try.t7, info_of_run Try.typeInfo7, rfl, rfl, rfl⟩, ⟨_, Try.underlying7, rfl⟩, fun h => by cases h⟩
theorem tabE8 : EntryOK Try.prog 8 ⟨.struct [(2, 0), (3, 1), (4, 2), (6, 3)], 4, 24, (Value.agg #[(Value.int IntKind.i64 0), (Value.int IntKind.i64 0), (Value.bool Bool.false), (Value.int IntKind.u8 0)]), false⟩ := ⟨⟨Try.t8, info_of_run Try.typeInfo8, rfl, rfl, rfl⟩, ⟨_, Try.underlying8, rfl⟩, fun h => by cases h⟩
theorem tabE9 : EntryOK Try.prog 9 ⟨.str, 1, 16, (Value.string (ByteArray.mk #[])), false⟩ := ⟨⟨Try.t9, info_of_run Try.typeInfo9, rfl, rfl, rfl⟩, ⟨_, Try.underlying9, rfl⟩, fun h => by cases h⟩
theorem tabE10 : EntryOK Try.prog 10 ⟨.str, 1, 16, (Value.string (ByteArray.mk #[])), false⟩ := ⟨⟨Try.t10, info_of_run Try.typeInfo10, rfl, rfl, rfl⟩, ⟨_, Try.underlying10, rfl⟩, fun h => by cases h⟩
theorem tabE11 : EntryOK Try.prog 11 ⟨.str, 1, 16, (Value.string (ByteArray.mk #[])), false⟩ := ⟨⟨Try.t11, info_of_run Try.typeInfo11, rfl, rfl, rfl⟩, ⟨_, Try.underlying11, rfl⟩, fun h => by cases h⟩
theorem tabE12 : EntryOK Try.prog 12 ⟨.int .u64, 1, 8, (Value.int IntKind.u64 0), false⟩ := ⟨⟨Try.t12, info_of_run Try.typeInfo12, rfl, rfl, rfl⟩, ⟨_, Try.underlying12, rfl⟩, fun h => by cases h⟩
theorem tabE13 : EntryOK Try.prog 13 ⟨.struct [(9, 0), (12, 1)], 2, 24, (Value.agg #[(Value.string (ByteArray.mk #[])), (Value.int IntKind.u64 0)]), false⟩ := ⟨⟨Try.t13, info_of_run Try.typeInfo13, rfl, rfl, rfl⟩, ⟨_, Try.underlying13, rfl⟩, fun h => by cases h⟩
theorem tabE14 : EntryOK Try.prog 14 ⟨.struct [(9, 0), (12, 1)], 2, 24, (Value.agg #[(Value.string (ByteArray.mk #[])), (Value.int IntKind.u64 0)]), false⟩ := ⟨⟨Try.t14, info_of_run Try.typeInfo14, rfl, rfl, rfl⟩, ⟨_, Try.underlying14, rfl⟩, fun h => by cases h⟩
theorem tabE15 : EntryOK Try.prog 15 ⟨.ptr 75, 1, 8, (Value.pointer none), false⟩ := ⟨⟨Try.t15, info_of_run Try.typeInfo15, rfl, rfl, rfl⟩, ⟨_, Try.underlying15, rfl⟩, fun h => by cases h⟩
theorem tabE16 : EntryOK Try.prog 16 ⟨.ptr 78, 1, 8, (Value.pointer none), false⟩ := ⟨⟨Try.t16, info_of_run Try.typeInfo16, rfl, rfl, rfl⟩, ⟨_, Try.underlying16, rfl⟩, fun h => by cases h⟩
theorem tabE17 : EntryOK Try.prog 17 ⟨.ptr 87, 1, 8, (Value.pointer none), false⟩ := ⟨⟨Try.t17, info_of_run Try.typeInfo17, rfl, rfl, rfl⟩, ⟨_, Try.underlying17, rfl⟩, fun h => by cases h⟩
theorem tabE18 : EntryOK Try.prog 18 ⟨.struct [(17, 0)], 1, 8, (Value.agg #[(Value.pointer none)]), false⟩ := ⟨⟨Try.t18, info_of_run Try.typeInfo18, rfl, rfl, rfl⟩, ⟨_, Try.underlying18, rfl⟩, fun h => by cases h⟩
theorem tabE19 : EntryOK Try.prog 19 ⟨.struct [(17, 0)], 1, 8, (Value.agg #[(Value.pointer none)]), false⟩ := ⟨⟨Try.t19, info_of_run Try.typeInfo19, rfl, rfl, rfl⟩, ⟨_, Try.underlying19, rfl⟩, fun h => by cases h⟩
theorem tabE20 : EntryOK Try.prog 20 ⟨.other, 1, 16, Value.nilIface, false⟩ := ⟨⟨Try.t20, info_of_run Try.typeInfo20, rfl, rfl, rfl⟩, ⟨_, Try.underlying20, rfl⟩, fun h => by cases h⟩
theorem tabE21 : EntryOK Try.prog 21 ⟨.int .i32, 1, 4, (Value.int IntKind.i32 0), false⟩ := ⟨⟨Try.t21, info_of_run Try.typeInfo21, rfl, rfl, rfl⟩, ⟨_, Try.underlying21, rfl⟩, fun h => by cases h⟩
theorem tabE22 : EntryOK Try.prog 22 ⟨.slice 3, 1, 24, (Value.slice none 0 0), false⟩ := ⟨⟨Try.t22, info_of_run Try.typeInfo22, rfl, rfl, rfl⟩, ⟨_, Try.underlying22, rfl⟩, fun h => by cases h⟩
theorem tabE23 : EntryOK Try.prog 23 ⟨.func, 1, 8, Value.nilFunc, false⟩ := ⟨⟨Try.t23, info_of_run Try.typeInfo23, rfl, rfl, rfl⟩, ⟨_, Try.underlying23, rfl⟩, fun h => by cases h⟩
theorem tabE24 : EntryOK Try.prog 24 ⟨.ptr 57, 1, 8, (Value.pointer none), false⟩ := ⟨⟨Try.t24, info_of_run Try.typeInfo24, rfl, rfl, rfl⟩, ⟨_, Try.underlying24, rfl⟩, fun h => by cases h⟩
theorem tabE25 : EntryOK Try.prog 25 ⟨.int .i64, 1, 8, (Value.int IntKind.i64 0), false⟩ := ⟨⟨Try.t25, info_of_run Try.typeInfo25, rfl, rfl, rfl⟩, ⟨_, Try.underlying25, rfl⟩, fun h => by cases h⟩
theorem tabE26 : EntryOK Try.prog 26 ⟨.other, 1, 0, (Value.tuple #[(Value.pointer none), (Value.int IntKind.i64 0)]), false⟩ := ⟨⟨Try.t26, info_of_run Try.typeInfo26, rfl, rfl, rfl⟩, ⟨_, Try.underlying26, rfl⟩, fun h => by cases h⟩
theorem tabE27 : EntryOK Try.prog 27 ⟨.func, 1, 8, Value.nilFunc, false⟩ := ⟨⟨Try.t27, info_of_run Try.typeInfo27, rfl, rfl, rfl⟩, ⟨_, Try.underlying27, rfl⟩, fun h => by cases h⟩
theorem tabE28 : EntryOK Try.prog 28 ⟨.func, 1, 8, Value.nilFunc, false⟩ := ⟨⟨Try.t28, info_of_run Try.typeInfo28, rfl, rfl, rfl⟩, ⟨_, Try.underlying28, rfl⟩, fun h => by cases h⟩
theorem tabE29 : EntryOK Try.prog 29 ⟨.other, 1, 0, (Value.tuple #[(Value.int IntKind.i64 0), (Value.int IntKind.i64 0)]), false⟩ := ⟨⟨Try.t29, info_of_run Try.typeInfo29, rfl, rfl, rfl⟩, ⟨_, Try.underlying29, rfl⟩, fun h => by cases h⟩
theorem tabE30 : EntryOK Try.prog 30 ⟨.func, 1, 8, Value.nilFunc, false⟩ := ⟨⟨Try.t30, info_of_run Try.typeInfo30, rfl, rfl, rfl⟩, ⟨_, Try.underlying30, rfl⟩, fun h => by cases h⟩
theorem tabE31 : EntryOK Try.prog 31 ⟨.func, 1, 8, Value.nilFunc, false⟩ := ⟨⟨Try.t31, info_of_run Try.typeInfo31, rfl, rfl, rfl⟩, ⟨_, Try.underlying31, rfl⟩, fun h => by cases h⟩
theorem tabE32 : EntryOK Try.prog 32 ⟨.func, 1, 8, Value.nilFunc, false⟩ := ⟨⟨Try.t32, info_of_run Try.typeInfo32, rfl, rfl, rfl⟩, ⟨_, Try.underlying32, rfl⟩, fun h => by cases h⟩
theorem tabE33 : EntryOK Try.prog 33 ⟨.ptr 39, 1, 8, (Value.pointer none), false⟩ := ⟨⟨Try.t33, info_of_run Try.typeInfo33, rfl, rfl, rfl⟩, ⟨_, Try.underlying33, rfl⟩, fun h => by cases h⟩
theorem tabE34 : EntryOK Try.prog 34 ⟨.other, 1, 0, (Value.tuple #[(Value.pointer none), (Value.int IntKind.i64 0)]), false⟩ := ⟨⟨Try.t34, info_of_run Try.typeInfo34, rfl, rfl, rfl⟩, ⟨_, Try.underlying34, rfl⟩, fun h => by cases h⟩
theorem tabE35 : EntryOK Try.prog 35 ⟨.func, 1, 8, Value.nilFunc, false⟩ := ⟨⟨Try.t35, info_of_run Try.typeInfo35, rfl, rfl, rfl⟩, ⟨_, Try.underlying35, rfl⟩, fun h => by cases h⟩
theorem tabE36 : EntryOK Try.prog 36 ⟨.func, 1, 8, Value.nilFunc, false⟩ := ⟨⟨Try.t36, info_of_run Try.typeInfo36, rfl, rfl, rfl⟩, ⟨_, Try.underlying36, rfl⟩, fun h => by cases h⟩
theorem tabE37 : EntryOK Try.prog 37 ⟨.ptr 63, 1, 8, (Value.pointer none), false⟩ := ⟨⟨Try.t37, info_of_run Try.typeInfo37, rfl, rfl, rfl⟩, ⟨_, Try.underlying37, rfl⟩, fun h => by cases h⟩
theorem tabE38 : EntryOK Try.prog 38 ⟨.struct [(24, 0), (37, 1), (37, 2), (3, 3)], 4, 32, (Value.agg #[(Value.pointer none), (Value.pointer none), (Value.pointer none), (Value.int IntKind.i64 0)]), false⟩ := ⟨⟨Try.t38, info_of_run Try.typeInfo38, rfl, rfl, rfl⟩, ⟨_, Try.underlying38, rfl⟩, fun h => by cases h⟩
theorem tabE39 : EntryOK Try.prog 39 ⟨.struct [(24, 0), (37, 1), (37, 2), (3, 3)], 4, 32, (Value.agg #[(Value.pointer none), (Value.pointer none), (Value.pointer none), (Value.int IntKind.i64 0)]), true⟩ := ⟨⟨Try.t39, info_of_run Try.typeInfo39, rfl, rfl, rfl⟩, ⟨_, Try.underlying39, rfl⟩, eqs_ok Try.eqGuardType39 Try.underlying39 (.inl Try.stoodInHeld39) (by decide)⟩
theorem tabE40 : EntryOK Try.prog 40 ⟨.func, 1, 8, Value.nilFunc, false⟩ := ⟨⟨Try.t40, info_of_run Try.typeInfo40, rfl, rfl, rfl⟩, ⟨_, Try.underlying40, rfl⟩, fun h => by cases h⟩
theorem tabE41 : EntryOK Try.prog 41 ⟨.ptr 59, 1, 8, (Value.pointer none), false⟩ := ⟨⟨Try.t41, info_of_run Try.typeInfo41, rfl, rfl, rfl⟩, ⟨_, Try.underlying41, rfl⟩, fun h => by cases h⟩
theorem tabE42 : EntryOK Try.prog 42 ⟨.other, 1, 0, (Value.tuple #[(Value.pointer none), (Value.int IntKind.i64 0)]), false⟩ := ⟨⟨Try.t42, info_of_run Try.typeInfo42, rfl, rfl, rfl⟩, ⟨_, Try.underlying42, rfl⟩, fun h => by cases h⟩
theorem tabE43 : EntryOK Try.prog 43 ⟨.func, 1, 8, Value.nilFunc, false⟩ := ⟨⟨Try.t43, info_of_run Try.typeInfo43, rfl, rfl, rfl⟩, ⟨_, Try.underlying43, rfl⟩, fun h => by cases h⟩
theorem tabE44 : EntryOK Try.prog 44 ⟨.func, 1, 8, Value.nilFunc, false⟩ := ⟨⟨Try.t44, info_of_run Try.typeInfo44, rfl, rfl, rfl⟩, ⟨_, Try.underlying44, rfl⟩, fun h => by cases h⟩
theorem tabE45 : EntryOK Try.prog 45 ⟨.func, 1, 8, Value.nilFunc, false⟩ := ⟨⟨Try.t45, info_of_run Try.typeInfo45, rfl, rfl, rfl⟩, ⟨_, Try.underlying45, rfl⟩, fun h => by cases h⟩
theorem tabE46 : EntryOK Try.prog 46 ⟨.slice 51, 1, 24, (Value.slice none 0 0), false⟩ := ⟨⟨Try.t46, info_of_run Try.typeInfo46, rfl, rfl, rfl⟩, ⟨_, Try.underlying46, rfl⟩, fun h => by cases h⟩
theorem tabE47 : EntryOK Try.prog 47 ⟨.ptr 49, 1, 8, (Value.pointer none), false⟩ := ⟨⟨Try.t47, info_of_run Try.typeInfo47, rfl, rfl, rfl⟩, ⟨_, Try.underlying47, rfl⟩, fun h => by cases h⟩
theorem tabE48 : EntryOK Try.prog 48 ⟨.struct [(3, 0), (3, 1)], 2, 16, (Value.agg #[(Value.int IntKind.i64 0), (Value.int IntKind.i64 0)]), true⟩ := ⟨⟨Try.t48, info_of_run Try.typeInfo48, rfl, rfl, rfl⟩, ⟨_, Try.underlying48, rfl⟩, eqs_ok Try.eqGuardType48 Try.underlying48 (.inl Try.stoodInHeld48) (by decide)⟩
theorem tabE49 : EntryOK Try.prog 49 ⟨.struct [(3, 0), (3, 1)], 2, 16, (Value.agg #[(Value.int IntKind.i64 0), (Value.int IntKind.i64 0)]), true⟩ := ⟨⟨Try.t49, info_of_run Try.typeInfo49, rfl, rfl, rfl⟩, ⟨_, Try.underlying49, rfl⟩, eqs_ok Try.eqGuardType49 Try.underlying49 (.inl Try.stoodInHeld49) (by decide)⟩
theorem tabE50 : EntryOK Try.prog 50 ⟨.struct [(3, 0), (3, 1), (22, 2)], 3, 40, (Value.agg #[(Value.int IntKind.i64 0), (Value.int IntKind.i64 0), (Value.slice none 0 0)]), false⟩ := ⟨⟨Try.t50, info_of_run Try.typeInfo50, rfl, rfl, rfl⟩, ⟨_, Try.underlying50, rfl⟩, fun h => by cases h⟩
theorem tabE51 : EntryOK Try.prog 51 ⟨.struct [(3, 0), (3, 1), (22, 2)], 3, 40, (Value.agg #[(Value.int IntKind.i64 0), (Value.int IntKind.i64 0), (Value.slice none 0 0)]), false⟩ := ⟨⟨Try.t51, info_of_run Try.typeInfo51, rfl, rfl, rfl⟩, ⟨_, Try.underlying51, rfl⟩, fun h => by cases h⟩
theorem tabE52 : EntryOK Try.prog 52 ⟨.func, 1, 8, Value.nilFunc, false⟩ := ⟨⟨Try.t52, info_of_run Try.typeInfo52, rfl, rfl, rfl⟩, ⟨_, Try.underlying52, rfl⟩, fun h => by cases h⟩
theorem tabE53 : EntryOK Try.prog 53 ⟨.ptr 55, 1, 8, (Value.pointer none), false⟩ := ⟨⟨Try.t53, info_of_run Try.typeInfo53, rfl, rfl, rfl⟩, ⟨_, Try.underlying53, rfl⟩, fun h => by cases h⟩
theorem tabE54 : EntryOK Try.prog 54 ⟨.struct [(3, 0), (22, 1)], 2, 32, (Value.agg #[(Value.int IntKind.i64 0), (Value.slice none 0 0)]), false⟩ := ⟨⟨Try.t54, info_of_run Try.typeInfo54, rfl, rfl, rfl⟩, ⟨_, Try.underlying54, rfl⟩, fun h => by cases h⟩
theorem tabE55 : EntryOK Try.prog 55 ⟨.struct [(3, 0), (22, 1)], 2, 32, (Value.agg #[(Value.int IntKind.i64 0), (Value.slice none 0 0)]), false⟩ := ⟨⟨Try.t55, info_of_run Try.typeInfo55, rfl, rfl, rfl⟩, ⟨_, Try.underlying55, rfl⟩, fun h => by cases h⟩
theorem tabE56 : EntryOK Try.prog 56 ⟨.struct [(22, 0), (3, 1), (3, 2)], 3, 40, (Value.agg #[(Value.slice none 0 0), (Value.int IntKind.i64 0), (Value.int IntKind.i64 0)]), false⟩ := ⟨⟨Try.t56, info_of_run Try.typeInfo56, rfl, rfl, rfl⟩, ⟨_, Try.underlying56, rfl⟩, fun h => by cases h⟩
theorem tabE57 : EntryOK Try.prog 57 ⟨.struct [(22, 0), (3, 1), (3, 2)], 3, 40, (Value.agg #[(Value.slice none 0 0), (Value.int IntKind.i64 0), (Value.int IntKind.i64 0)]), false⟩ := ⟨⟨Try.t57, info_of_run Try.typeInfo57, rfl, rfl, rfl⟩, ⟨_, Try.underlying57, rfl⟩, fun h => by cases h⟩
theorem tabE58 : EntryOK Try.prog 58 ⟨.struct [(3, 0), (3, 1)], 2, 16, (Value.agg #[(Value.int IntKind.i64 0), (Value.int IntKind.i64 0)]), true⟩ := ⟨⟨Try.t58, info_of_run Try.typeInfo58, rfl, rfl, rfl⟩, ⟨_, Try.underlying58, rfl⟩, eqs_ok Try.eqGuardType58 Try.underlying58 (.inl Try.stoodInHeld58) (by decide)⟩
theorem tabE59 : EntryOK Try.prog 59 ⟨.struct [(3, 0), (3, 1)], 2, 16, (Value.agg #[(Value.int IntKind.i64 0), (Value.int IntKind.i64 0)]), true⟩ := ⟨⟨Try.t59, info_of_run Try.typeInfo59, rfl, rfl, rfl⟩, ⟨_, Try.underlying59, rfl⟩, eqs_ok Try.eqGuardType59 Try.underlying59 (.inl Try.stoodInHeld59) (by decide)⟩
theorem tabE60 : EntryOK Try.prog 60 ⟨.func, 1, 8, Value.nilFunc, false⟩ := ⟨⟨Try.t60, info_of_run Try.typeInfo60, rfl, rfl, rfl⟩, ⟨_, Try.underlying60, rfl⟩, fun h => by cases h⟩
theorem tabE61 : EntryOK Try.prog 61 ⟨.slice 66, 1, 24, (Value.slice none 0 0), false⟩ := ⟨⟨Try.t61, info_of_run Try.typeInfo61, rfl, rfl, rfl⟩, ⟨_, Try.underlying61, rfl⟩, fun h => by cases h⟩
theorem tabE62 : EntryOK Try.prog 62 ⟨.struct [(61, 0), (3, 1), (3, 2), (4, 3)], 4, 48, (Value.agg #[(Value.slice none 0 0), (Value.int IntKind.i64 0), (Value.int IntKind.i64 0), (Value.bool Bool.false)]), false⟩ := ⟨⟨Try.t62, info_of_run Try.typeInfo62, rfl, rfl, rfl⟩, ⟨_, Try.underlying62, rfl⟩, fun h => by cases h⟩
theorem tabE63 : EntryOK Try.prog 63 ⟨.struct [(61, 0), (3, 1), (3, 2), (4, 3)], 4, 48, (Value.agg #[(Value.slice none 0 0), (Value.int IntKind.i64 0), (Value.int IntKind.i64 0), (Value.bool Bool.false)]), false⟩ := ⟨⟨Try.t63, info_of_run Try.typeInfo63, rfl, rfl, rfl⟩, ⟨_, Try.underlying63, rfl⟩, fun h => by cases h⟩
theorem tabE64 : EntryOK Try.prog 64 ⟨.func, 1, 8, Value.nilFunc, false⟩ := ⟨⟨Try.t64, info_of_run Try.typeInfo64, rfl, rfl, rfl⟩, ⟨_, Try.underlying64, rfl⟩, fun h => by cases h⟩
theorem tabE65 : EntryOK Try.prog 65 ⟨.struct [(3, 0), (3, 1)], 2, 16, (Value.agg #[(Value.int IntKind.i64 0), (Value.int IntKind.i64 0)]), true⟩ := ⟨⟨Try.t65, info_of_run Try.typeInfo65, rfl, rfl, rfl⟩, ⟨_, Try.underlying65, rfl⟩, eqs_ok Try.eqGuardType65 Try.underlying65 (.inl Try.stoodInHeld65) (by decide)⟩
theorem tabE66 : EntryOK Try.prog 66 ⟨.struct [(3, 0), (3, 1)], 2, 16, (Value.agg #[(Value.int IntKind.i64 0), (Value.int IntKind.i64 0)]), true⟩ := ⟨⟨Try.t66, info_of_run Try.typeInfo66, rfl, rfl, rfl⟩, ⟨_, Try.underlying66, rfl⟩, eqs_ok Try.eqGuardType66 Try.underlying66 (.inl Try.stoodInHeld66) (by decide)⟩
theorem tabE67 : EntryOK Try.prog 67 ⟨.func, 1, 8, Value.nilFunc, false⟩ := ⟨⟨Try.t67, info_of_run Try.typeInfo67, rfl, rfl, rfl⟩, ⟨_, Try.underlying67, rfl⟩, fun h => by cases h⟩
theorem tabE68 : EntryOK Try.prog 68 ⟨.func, 1, 8, Value.nilFunc, false⟩ := ⟨⟨Try.t68, info_of_run Try.typeInfo68, rfl, rfl, rfl⟩, ⟨_, Try.underlying68, rfl⟩, fun h => by cases h⟩
theorem tabE69 : EntryOK Try.prog 69 ⟨.ptr 66, 1, 8, (Value.pointer none), false⟩ := ⟨⟨Try.t69, info_of_run Try.typeInfo69, rfl, rfl, rfl⟩, ⟨_, Try.underlying69, rfl⟩, fun h => by cases h⟩
theorem tabE70 : EntryOK Try.prog 70 ⟨.func, 1, 8, Value.nilFunc, false⟩ := ⟨⟨Try.t70, info_of_run Try.typeInfo70, rfl, rfl, rfl⟩, ⟨_, Try.underlying70, rfl⟩, fun h => by cases h⟩
theorem tabE71 : EntryOK Try.prog 71 ⟨.other, 1, 0, (Value.tuple #[(Value.int IntKind.i64 0), (Value.bool Bool.false)]), false⟩ := ⟨⟨Try.t71, info_of_run Try.typeInfo71, rfl, rfl, rfl⟩, ⟨_, Try.underlying71, rfl⟩, fun h => by cases h⟩
theorem tabE72 : EntryOK Try.prog 72 ⟨.func, 1, 8, Value.nilFunc, false⟩ := ⟨⟨Try.t72, info_of_run Try.typeInfo72, rfl, rfl, rfl⟩, ⟨_, Try.underlying72, rfl⟩, fun h => by cases h⟩
theorem tabE73 : EntryOK Try.prog 73 ⟨.func, 1, 8, Value.nilFunc, false⟩ := ⟨⟨Try.t73, info_of_run Try.typeInfo73, rfl, rfl, rfl⟩, ⟨_, Try.underlying73, rfl⟩, fun h => by cases h⟩
theorem tabE74 : EntryOK Try.prog 74 ⟨.struct [(17, 0), (17, 1), (17, 2), (9, 3)], 4, 40, (Value.agg #[(Value.pointer none), (Value.pointer none), (Value.pointer none), (Value.string (ByteArray.mk #[]))]), false⟩ := ⟨⟨Try.t74, info_of_run Try.typeInfo74, rfl, rfl, rfl⟩, ⟨_, Try.underlying74, rfl⟩, fun h => by cases h⟩
theorem tabE75 : EntryOK Try.prog 75 ⟨.struct [(17, 0), (17, 1), (17, 2), (9, 3)], 4, 40, (Value.agg #[(Value.pointer none), (Value.pointer none), (Value.pointer none), (Value.string (ByteArray.mk #[]))]), false⟩ := ⟨⟨Try.t75, info_of_run Try.typeInfo75, rfl, rfl, rfl⟩, ⟨_, Try.underlying75, rfl⟩, fun h => by cases h⟩
theorem tabE76 : EntryOK Try.prog 76 ⟨.arr 0 16, 0, 0, (Value.agg #[]), false⟩ := ⟨⟨Try.t76, info_of_run Try.typeInfo76, rfl, rfl, rfl⟩, ⟨_, Try.underlying76, rfl⟩, fun h => by cases h⟩
theorem tabE77 : EntryOK Try.prog 77 ⟨.struct [(76, 0)], 0, 0, (Value.agg #[]), false⟩ := ⟨⟨Try.t77, info_of_run Try.typeInfo77, rfl, rfl, rfl⟩, ⟨_, Try.underlying77, rfl⟩, fun h => by cases h⟩
theorem tabE78 : EntryOK Try.prog 78 ⟨.struct [(76, 0)], 0, 0, (Value.agg #[]), false⟩ := ⟨⟨Try.t78, info_of_run Try.typeInfo78, rfl, rfl, rfl⟩, ⟨_, Try.underlying78, rfl⟩, fun h => by cases h⟩
theorem tabE79 : EntryOK Try.prog 79 ⟨.int .u32, 1, 4, (Value.int IntKind.u32 0), false⟩ := ⟨⟨Try.t79, info_of_run Try.typeInfo79, rfl, rfl, rfl⟩, ⟨_, Try.underlying79, rfl⟩, fun h => by cases h⟩
theorem tabE80 : EntryOK Try.prog 80 ⟨.int .u8, 1, 1, (Value.int IntKind.u8 0), false⟩ := ⟨⟨Try.t80, info_of_run Try.typeInfo80, rfl, rfl, rfl⟩, ⟨_, Try.underlying80, rfl⟩, fun h => by cases h⟩
theorem tabE81 : EntryOK Try.prog 81 ⟨.int .u8, 1, 1, (Value.int IntKind.u8 0), false⟩ := ⟨⟨Try.t81, info_of_run Try.typeInfo81, rfl, rfl, rfl⟩, ⟨_, Try.underlying81, rfl⟩, fun h => by cases h⟩
theorem tabE82 : EntryOK Try.prog 82 ⟨.func, 1, 8, Value.nilFunc, false⟩ := ⟨⟨Try.t82, info_of_run Try.typeInfo82, rfl, rfl, rfl⟩, ⟨_, Try.underlying82, rfl⟩, fun h => by cases h⟩
theorem tabE83 : EntryOK Try.prog 83 ⟨.ptr 5, 1, 8, (Value.pointer none), false⟩ := ⟨⟨Try.t83, info_of_run Try.typeInfo83, rfl, rfl, rfl⟩, ⟨_, Try.underlying83, rfl⟩, fun h => by cases h⟩
theorem tabE84 : EntryOK Try.prog 84 ⟨.int .i32, 1, 4, (Value.int IntKind.i32 0), false⟩ := ⟨⟨Try.t84, info_of_run Try.typeInfo84, rfl, rfl, rfl⟩, ⟨_, Try.underlying84, rfl⟩, fun h => by cases h⟩
theorem tabE85 : EntryOK Try.prog 85 ⟨.int .i32, 1, 4, (Value.int IntKind.i32 0), false⟩ := ⟨⟨Try.t85, info_of_run Try.typeInfo85, rfl, rfl, rfl⟩, ⟨_, Try.underlying85, rfl⟩, fun h => by cases h⟩
theorem tabE86 : EntryOK Try.prog 86 ⟨.struct [(12, 0), (12, 1), (79, 2), (80, 3), (5, 4), (5, 5), (81, 6), (82, 7), (83, 8), (84, 9), (85, 10)], 11, 48, (Value.agg #[(Value.int IntKind.u64 0), (Value.int IntKind.u64 0), (Value.int IntKind.u32 0), (Value.int IntKind.u8 0), (Value.int IntKind.u8 0), (Value.int IntKind.u8 0), (Value.int IntKind.u8 0), Value.nilFunc, (Value.pointer none), (Value.int IntKind.i32 0), (Value.int IntKind.i32 0)]), false⟩ := ⟨⟨Try.t86, info_of_run Try.typeInfo86, rfl, rfl, rfl⟩, ⟨_, Try.underlying86, rfl⟩, fun h => by cases h⟩
theorem tabE87 : EntryOK Try.prog 87 ⟨.struct [(12, 0), (12, 1), (79, 2), (80, 3), (5, 4), (5, 5), (81, 6), (82, 7), (83, 8), (84, 9), (85, 10)], 11, 48, (Value.agg #[(Value.int IntKind.u64 0), (Value.int IntKind.u64 0), (Value.int IntKind.u32 0), (Value.int IntKind.u8 0), (Value.int IntKind.u8 0), (Value.int IntKind.u8 0), (Value.int IntKind.u8 0), Value.nilFunc, (Value.pointer none), (Value.int IntKind.i32 0), (Value.int IntKind.i32 0)]), false⟩ := ⟨⟨Try.t87, info_of_run Try.typeInfo87, rfl, rfl, rfl⟩, ⟨_, Try.underlying87, rfl⟩, fun h => by cases h⟩
theorem tabE88 : EntryOK Try.prog 88 ⟨.other, 1, 8, (Value.pointer none), false⟩ := ⟨⟨Try.t88, info_of_run Try.typeInfo88, rfl, rfl, rfl⟩, ⟨_, Try.underlying88, rfl⟩, fun h => by cases h⟩
theorem tabOK : TabOK Try.prog tab := (tabOK_cons tabE0 (tabOK_cons tabE1 (tabOK_cons tabE2 (tabOK_cons tabE3 (tabOK_cons tabE4 (tabOK_cons tabE5 (tabOK_cons tabE6 (tabOK_cons tabE7 (tabOK_cons tabE8 (tabOK_cons tabE9 (tabOK_cons tabE10 (tabOK_cons tabE11 (tabOK_cons tabE12 (tabOK_cons tabE13 (tabOK_cons tabE14 (tabOK_cons tabE15 (tabOK_cons tabE16 (tabOK_cons tabE17 (tabOK_cons tabE18 (tabOK_cons tabE19 (tabOK_cons tabE20 (tabOK_cons tabE21 (tabOK_cons tabE22 (tabOK_cons tabE23 (tabOK_cons tabE24 (tabOK_cons tabE25 (tabOK_cons tabE26 (tabOK_cons tabE27 (tabOK_cons tabE28 (tabOK_cons tabE29 (tabOK_cons tabE30 (tabOK_cons tabE31 (tabOK_cons tabE32 (tabOK_cons tabE33 (tabOK_cons tabE34 (tabOK_cons tabE35 (tabOK_cons tabE36 (tabOK_cons tabE37 (tabOK_cons tabE38 (tabOK_cons tabE39 (tabOK_cons tabE40 (tabOK_cons tabE41 (tabOK_cons tabE42 (tabOK_cons tabE43 (tabOK_cons tabE44 (tabOK_cons tabE45 (tabOK_cons tabE46 (tabOK_cons tabE47 (tabOK_cons tabE48 (tabOK_cons tabE49 (tabOK_cons tabE50 (tabOK_cons tabE51 (tabOK_cons tabE52 (tabOK_cons tabE53 (tabOK_cons tabE54 (tabOK_cons tabE55 (tabOK_cons tabE56 (tabOK_cons tabE57 (tabOK_cons tabE58 (tabOK_cons tabE59 (tabOK_cons tabE60 (tabOK_cons tabE61 (tabOK_cons tabE62 (tabOK_cons tabE63 (tabOK_cons tabE64 (tabOK_cons tabE65 (tabOK_cons tabE66 (tabOK_cons tabE67 (tabOK_cons tabE68 (tabOK_cons tabE69 (tabOK_cons tabE70 (tabOK_cons tabE71 (tabOK_cons tabE72 (tabOK_cons tabE73 (tabOK_cons tabE74 (tabOK_cons tabE75 (tabOK_cons tabE76 (tabOK_cons tabE77 (tabOK_cons tabE78 (tabOK_cons tabE79 (tabOK_cons tabE80 (tabOK_cons tabE81 (tabOK_cons tabE82 (tabOK_cons tabE83 (tabOK_cons tabE84 (tabOK_cons tabE85 (tabOK_cons tabE86 (tabOK_cons tabE87 (tabOK_cons tabE88 tabOK_nil)))))))))))))))))))))))))))))))))))))))))))))))))))))))))))))))))))))))))))))))))))))))))
theorem fnE3 : FnOK Try.prog 3 Try.f3 [] := ⟨Try.func3, fun vs w => Try.call3 vs w, fun _ _ => loopsOK_nil⟩
theorem fnE4 : FnOK Try.prog 4 Try.f4 [] := ⟨Try.func4, fun vs w => Try.call4 vs w, fun _ _ => loopsOK_nil⟩
theorem fnE5 : FnOK Try.prog 5 Try.f5 [] := ⟨Try.func5, fun vs w => Try.call5 vs w, fun _ _ => loopsOK_nil⟩
theorem fnE6 : FnOK Try.prog 6 Try.f6 [] := ⟨Try.func6, fun vs w => Try.call6 vs w, fun _ _ => loopsOK_nil⟩
theorem fnE7 : FnOK Try.prog 7 Try.f7 [] := ⟨Try.func7, fun vs w => Try.call7 vs w, fun _ _ => loopsOK_nil⟩
theorem fnE8 : FnOK Try.prog 8 Try.f8 [] := ⟨Try.func8, fun vs w => Try.call8 vs w, fun _ _ => loopsOK_nil⟩
theorem fnE9 : FnOK Try.prog 9 Try.f9 [] := ⟨Try.func9, fun vs w => Try.call9 vs w, fun _ _ => loopsOK_nil⟩
theorem fnE10 : FnOK Try.prog 10 Try.f10 [] := ⟨Try.func10, fun vs w => Try.call10 vs w, fun _ _ => loopsOK_nil⟩
theorem fnE11 : FnOK Try.prog 11 Try.f11 [] := ⟨Try.func11, fun vs w => Try.call11 vs w, fun _ _ => loopsOK_nil⟩
theorem fnE12 : FnOK Try.prog 12 Try.f12 [] := ⟨Try.func12, fun vs w => Try.call12 vs w, fun _ _ => loopsOK_nil⟩
theorem fnE13 : FnOK Try.prog 13 Try.f13 [] := ⟨Try.func13, fun vs w => Try.call13 vs w, fun _ _ => loopsOK_nil⟩
theorem fnE14 : FnOK Try.prog 14 Try.f14 [] := ⟨Try.func14, fun vs w => Try.call14 vs w, fun _ _ => loopsOK_nil⟩
theorem fnE15 : FnOK Try.prog 15 Try.f15 [] := ⟨Try.func15, fun vs w => Try.call15 vs w, fun _ _ => loopsOK_nil⟩
theorem fnE16 : FnOK Try.prog 16 Try.f16 [] := ⟨Try.func16, fun vs w => Try.call16 vs w, fun _ _ => loopsOK_nil⟩
theorem fnE17 : FnOK Try.prog 17 Try.f17 [] := ⟨Try.func17, fun vs w => Try.call17 vs w, fun _ _ => loopsOK_nil⟩
theorem fnE18 : FnOK Try.prog 18 Try.f18 [] := ⟨Try.func18, fun vs w => Try.call18 vs w, fun _ _ => loopsOK_nil⟩
theorem fnE19 : FnOK Try.prog 19 Try.f19 [] := ⟨Try.func19, fun vs w => Try.call19 vs w, fun _ _ => loopsOK_nil⟩
theorem fnE20 : FnOK Try.prog 20 Try.f20 [] := ⟨Try.func20, fun vs w => Try.call20 vs w, fun _ _ => loopsOK_nil⟩
theorem fnE21 : FnOK Try.prog 21 Try.f21 [] := ⟨Try.func21, fun vs w => Try.call21 vs w, fun _ _ => loopsOK_nil⟩
theorem fnE22 : FnOK Try.prog 22 Try.f22 [] := ⟨Try.func22, fun vs w => Try.call22 vs w, fun _ _ => loopsOK_nil⟩
theorem fnE23 : FnOK Try.prog 23 Try.f23 [] := ⟨Try.func23, fun vs w => Try.call23 vs w, fun _ _ => loopsOK_nil⟩
theorem fnE24 : FnOK Try.prog 24 Try.f24 [] := ⟨Try.func24, fun vs w => Try.call24 vs w, fun _ _ => loopsOK_nil⟩
theorem fnE25 : FnOK Try.prog 25 Try.f25 [] := ⟨Try.func25, fun vs w => Try.call25 vs w, fun _ _ => loopsOK_nil⟩
theorem fnE26 : FnOK Try.prog 26 Try.f26 [] := ⟨Try.func26, fun vs w => Try.call26 vs w, fun _ _ => loopsOK_nil⟩
theorem fnE27 : FnOK Try.prog 27 Try.f27 [] := ⟨Try.func27, fun vs w => Try.call27 vs w, fun _ _ => loopsOK_nil⟩
theorem fnE28 : FnOK Try.prog 28 Try.f28 [] := ⟨Try.func28, fun vs w => Try.call28 vs w, fun _ _ => loopsOK_nil⟩
theorem fnE29 : FnOK Try.prog 29 Try.f29 [] := ⟨Try.func29, fun vs w => Try.call29 vs w, fun _ _ => loopsOK_nil⟩
theorem fnE30 : FnOK Try.prog 30 Try.f30 [] := ⟨Try.func30, fun vs w => Try.call30 vs w, fun _ _ => loopsOK_nil⟩
theorem fnE31 : FnOK Try.prog 31 Try.f31 [] := ⟨Try.func31, fun vs w => Try.call31 vs w, fun _ _ => loopsOK_nil⟩
theorem fnE32 : FnOK Try.prog 32 Try.f32 [] := ⟨Try.func32, fun vs w => Try.call32 vs w, fun _ _ => loopsOK_nil⟩
theorem fnE33 : FnOK Try.prog 33 Try.f33 [] := ⟨Try.func33, fun vs w => Try.call33 vs w, fun _ _ => loopsOK_nil⟩
theorem fnE34 : FnOK Try.prog 34 Try.f34 [] := ⟨Try.func34, fun vs w => Try.call34 vs w, fun _ _ => loopsOK_nil⟩
theorem fnE35 : FnOK Try.prog 35 Try.f35 [] := ⟨Try.func35, fun vs w => Try.call35 vs w, fun _ _ => loopsOK_nil⟩
theorem fnE36 : FnOK Try.prog 36 Try.f36 [] := ⟨Try.func36, fun vs w => Try.call36 vs w, fun _ _ => loopsOK_nil⟩
theorem fnE37 : FnOK Try.prog 37 Try.f37 [] := ⟨Try.func37, fun vs w => Try.call37 vs w, fun _ _ => loopsOK_nil⟩
theorem fnE38 : FnOK Try.prog 38 Try.f38 [] := ⟨Try.func38, fun vs w => Try.call38 vs w, fun _ _ => loopsOK_nil⟩
theorem fnE39 : FnOK Try.prog 39 Try.f39 [] := ⟨Try.func39, fun vs w => Try.call39 vs w, fun _ _ => loopsOK_nil⟩
theorem fnE40 : FnOK Try.prog 40 Try.f40 [] := ⟨Try.func40, fun vs w => Try.call40 vs w, fun _ _ => loopsOK_nil⟩
theorem fnsOK : FnsOK Try.prog fns := (fnsOK_cons fnE3 (fnsOK_cons fnE4 (fnsOK_cons fnE5 (fnsOK_cons fnE6 (fnsOK_cons fnE7 (fnsOK_cons fnE8 (fnsOK_cons fnE9 (fnsOK_cons fnE10 (fnsOK_cons fnE11 (fnsOK_cons fnE12 (fnsOK_cons fnE13 (fnsOK_cons fnE14 (fnsOK_cons fnE15 (fnsOK_cons fnE16 (fnsOK_cons fnE17 (fnsOK_cons fnE18 (fnsOK_cons fnE19 (fnsOK_cons fnE20 (fnsOK_cons fnE21 (fnsOK_cons fnE22 (fnsOK_cons fnE23 (fnsOK_cons fnE24 (fnsOK_cons fnE25 (fnsOK_cons fnE26 (fnsOK_cons fnE27 (fnsOK_cons fnE28 (fnsOK_cons fnE29 (fnsOK_cons fnE30 (fnsOK_cons fnE31 (fnsOK_cons fnE32 (fnsOK_cons fnE33 (fnsOK_cons fnE34 (fnsOK_cons fnE35 (fnsOK_cons fnE36 (fnsOK_cons fnE37 (fnsOK_cons fnE38 (fnsOK_cons fnE39 (fnsOK_cons fnE40 fnsOK_nil))))))))))))))))))))))))))))))))))))))
theorem mixed : Try.prog.follows .mixedOrders = true := Try.checked.mixed
theorem mkCall {fs : FS} {specs : Specs} {fns' : Fns} (hFS : FSOK Try.prog fs) (hSp : SpecsOK Try.prog specs) (hF : FnsOK Try.prog fns') : CallOK Try.prog (acall tab fs specs fns' 100 20) := acall_ok tabOK hFS hSp hF (fun hC C => draw_ok tabOK hFS hC mixed C) 20
theorem mkDraw {fs : FS} {call : ACall} (hFS : FSOK Try.prog fs) (hC : CallOK Try.prog call) (C : Ctx) : DrawOK Try.prog tab fs call C := draw_ok tabOK hFS hC mixed C
end Go.Proofs.Ytgifbceiaibejaa.Sx
