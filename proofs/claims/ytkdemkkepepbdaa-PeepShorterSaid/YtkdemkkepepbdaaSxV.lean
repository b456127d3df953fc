/- The table of the seat's types and functions fits the program. Printed by gentab.py. -/
import Derived.Test.YtkdemkkepepbdaaChecked
import Derived.Test.YtkdemkkepepbdaaSxT
import Derived.Test.YtkdemkkepepbdaaSx9
namespace Go.Proofs.Ytkdemkkepepbdaa.Sx
open Go.RowKit
set_option maxRecDepth 100000
set_option linter.unusedVariables false
set_option linter.unusedSimpArgs false
set_option maxHeartbeats 4000000
theorem info_of_run {P : Program} {t : TypeId} {i : TypeInfo} (h : ∀ w, (typeInfo t).run P w = .ok i w) : P.info? t = some i := by
  cases hi : P.info? t with
  | some j => have := h default; simp [Go.typeInfo, hi] at this; rw [this]
  | none => have := h default; simp [Go.typeInfo, hi] at this
def notBlank : TypeDesc → Bool
  | .struct fs => fs.toList.all fun f => f.name != "_"
  | _ => true
theorem eqs_ok {P : Program} {t : TypeId} {d : TypeDesc} {b : Bool} (h1 : P.eqGuardType P.depth t = false) (h2 : P.underlying t = some d) (h3 : P.stoodInHeld t = false ∨ ∀ fs, d ≠ .struct fs) (h4 : notBlank d = true) :
    b = true → P.eqGuardType P.depth t = false ∧ ∀ fs, P.underlying t = some (.struct fs) → P.stoodInHeld t = false ∧ ∀ f ∈ fs.toList, f.name ≠ "_" := by
  refine fun _ => ⟨h1, fun fs h => ?_⟩
  rw [h2] at h; cases h
  rcases h3 with h3 | h3
  · exact ⟨h3, fun f hf => by have := List.all_eq_true.1 h4 f hf; simpa using this⟩
  · exact absurd rfl (h3 fs)
theorem tabE0 : EntryOK Try.prog 0 ⟨.other, 1, 0, (Value.tuple #[]), false⟩ := ⟨⟨Try.t0, info_of_run Try.typeInfo0, rfl, rfl, rfl⟩, ⟨_, Try.underlying0, rfl⟩, fun h => by cases h⟩
theorem tabE1 : EntryOK Try.prog 1 ⟨.func, 1, 8, Value.nilFunc, false⟩ := ⟨⟨Try.t1, info_of_run Try.typeInfo1, rfl, rfl, rfl⟩, ⟨_, Try.underlying1, rfl⟩, fun h => by cases h⟩
theorem tabE2 : EntryOK Try.prog 2 ⟨.int .i64, 1, 8, (Value.int IntKind.i64 0), false⟩ := ⟨⟨Try.t2, info_of_run Try.typeInfo2, rfl, rfl, rfl⟩, ⟨_, Try.underlying2, rfl⟩, fun h => by cases h⟩
theorem tabE3 : EntryOK Try.prog 3 ⟨.int .i64, 1, 8, (Value.int IntKind.i64 0), false⟩ := ⟨⟨Try.t3, info_of_run Try.typeInfo3, rfl, rfl, rfl⟩, ⟨_, Try.underlying3, rfl⟩, fun h => by cases h⟩
theorem tabE4 : EntryOK Try.prog 4 ⟨.bool, 1, 1, (Value.bool Bool.false), false⟩ := ⟨⟨Try.t4, info_of_run Try.typeInfo4, rfl, rfl, rfl⟩, ⟨_, Try.underlying4, rfl⟩, fun h => by cases h⟩
theorem tabE5 : EntryOK Try.prog 5 ⟨.int .u8, 1, 1, (Value.int IntKind.u8 0), false⟩ := ⟨⟨Try.t5, info_of_run Try.typeInfo5, rfl, rfl, rfl⟩, ⟨_, Try.underlying5, rfl⟩, fun h => by cases h⟩
theorem tabE6 : EntryOK Try.prog 6 ⟨.int .u8, 1, 1, (Value.int IntKind.u8 0), false⟩ := ⟨⟨Try.t6, info_of_run Try.typeInfo6, rfl, rfl, rfl⟩, ⟨_, Try.underlying6, rfl⟩, fun h => by cases h⟩
theorem tabE7 : EntryOK Try.prog 7 ⟨.struct [(2, 0), (3, 1), (4, 2), (6, 3)], 4, 24, (Value.agg #[(Value.int IntKind.i64 0), (Value.int IntKind.i64 0), (Value.bool Bool.false), (Value.int IntKind.u8 0)]), false⟩ := ⟨⟨Try.t7, info_of_run Try.typeInfo7, rfl, rfl, rfl⟩, ⟨_, Try.underlying7, rfl⟩, fun h => by cases h⟩
theorem tabE8 : EntryOK Try.prog 8 ⟨.struct [(2, 0), (3, 1), (4, 2), (6, 3)], 4, 24, (Value.agg #[(Value.int IntKind.i64 0), (Value.int IntKind.i64 0), (Value.bool Bool.false), (Value.int IntKind.u8 0)]), false⟩ := ⟨⟨Try.t8, info_of_run Try.typeInfo8, rfl, rfl, rfl⟩, ⟨_, Try.underlying8, rfl⟩, fun h => by cases h⟩
theorem tabE9 : EntryOK Try.prog 9 ⟨.str, 1, 16, (Value.string (ByteArray.mk #[])), false⟩ := ⟨⟨Try.t9, info_of_run Try.typeInfo9, rfl, rfl, rfl⟩, ⟨_, Try.underlying9, rfl⟩, fun h => by cases h⟩
theorem tabE10 : EntryOK Try.prog 10 ⟨.str, 1, 16, (Value.string (ByteArray.mk #[])), false⟩ := ⟨⟨Try.t10, info_of_run Try.typeInfo10, rfl, rfl, rfl⟩, ⟨_, Try.underlying10, rfl⟩, fun h => by cases h⟩
theorem tabE11 : EntryOK Try.prog 11 ⟨.str, 1, 16, (Value.string (ByteArray.mk #[])), false⟩ := ⟨⟨Try.t11, info_of_run Try.typeInfo11, rfl, rfl, rfl⟩, ⟨_, Try.underlying11, rfl⟩, fun h => by cases h⟩
theorem tabE12 : EntryOK Try.prog 12 ⟨.int .u64, 1, 8, (Value.int IntKind.u64 0), false⟩ := ⟨⟨Try.t12, info_of_run Try.typeInfo12, rfl, rfl, rfl⟩, ⟨_, Try.underlying12, rfl⟩, fun h => by cases h⟩
theorem tabE13 : EntryOK Try.prog 13 ⟨.struct [(9, 0), (12, 1)], 2, 24, (Value.agg #[(Value.string (ByteArray.mk #[])), (Value.int IntKind.u64 0)]), false⟩ := ⟨⟨Try.t13, info_of_run Try.typeInfo13, rfl, rfl, rfl⟩, ⟨_, Try.underlying13, rfl⟩, fun h => by cases h⟩
theorem tabE14 : EntryOK Try.prog 14 ⟨.struct [(9, 0), (12, 1)], 2, 24, (Value.agg #[(Value.string (ByteArray.mk #[])), (Value.int IntKind.u64 0)]), false⟩ := ⟨⟨Try.t14, info_of_run Try.typeInfo14, rfl, rfl, rfl⟩, ⟨_, Try.underlying14, rfl⟩, fun h => by cases h⟩
theorem tabE15 : EntryOK Try.prog 15 ⟨.ptr 48, 1, 8, (Value.pointer none), false⟩ := ⟨⟨Try.t15, info_of_run Try.typeInfo15, rfl, rfl, rfl⟩, ⟨_, Try.underlying15, rfl⟩, fun h => by cases h⟩
theorem tabE16 : EntryOK Try.prog 16 ⟨.ptr 51, 1, 8, (Value.pointer none), false⟩ := ⟨⟨Try.t16, info_of_run Try.typeInfo16, rfl, rfl, rfl⟩, ⟨_, Try.underlying16, rfl⟩, fun h => by cases h⟩
theorem tabE17 : EntryOK Try.prog 17 ⟨.ptr 61, 1, 8, (Value.pointer none), false⟩ := ⟨⟨Try.t17, info_of_run Try.typeInfo17, rfl, rfl, rfl⟩, ⟨_, Try.underlying17, rfl⟩, fun h => by cases h⟩
theorem tabE18 : EntryOK Try.prog 18 ⟨.struct [(17, 0)], 1, 8, (Value.agg #[(Value.pointer none)]), false⟩ := ⟨⟨Try.t18, info_of_run Try.typeInfo18, rfl, rfl, rfl⟩, ⟨_, Try.underlying18, rfl⟩, fun h => by cases h⟩
theorem tabE19 : EntryOK Try.prog 19 ⟨.struct [(17, 0)], 1, 8, (Value.agg #[(Value.pointer none)]), false⟩ := ⟨⟨Try.t19, info_of_run Try.typeInfo19, rfl, rfl, rfl⟩, ⟨_, Try.underlying19, rfl⟩, fun h => by cases h⟩
theorem tabE20 : EntryOK Try.prog 20 ⟨.other, 1, 16, Value.nilIface, false⟩ := ⟨⟨Try.t20, info_of_run Try.typeInfo20, rfl, rfl, rfl⟩, ⟨_, Try.underlying20, rfl⟩, fun h => by cases h⟩
theorem tabE21 : EntryOK Try.prog 21 ⟨.int .i32, 1, 4, (Value.int IntKind.i32 0), false⟩ := ⟨⟨Try.t21, info_of_run Try.typeInfo21, rfl, rfl, rfl⟩, ⟨_, Try.underlying21, rfl⟩, fun h => by cases h⟩
theorem tabE22 : EntryOK Try.prog 22 ⟨.slice 33, 1, 24, (Value.slice none 0 0), false⟩ := ⟨⟨Try.t22, info_of_run Try.typeInfo22, rfl, rfl, rfl⟩, ⟨_, Try.underlying22, rfl⟩, fun h => by cases h⟩
theorem tabE23 : EntryOK Try.prog 23 ⟨.func, 1, 8, Value.nilFunc, false⟩ := ⟨⟨Try.t23, info_of_run Try.typeInfo23, rfl, rfl, rfl⟩, ⟨_, Try.underlying23, rfl⟩, fun h => by cases h⟩
theorem tabE24 : EntryOK Try.prog 24 ⟨.slice 28, 1, 24, (Value.slice none 0 0), false⟩ := ⟨⟨Try.t24, info_of_run Try.typeInfo24, rfl, rfl, rfl⟩, ⟨_, Try.underlying24, rfl⟩, fun h => by cases h⟩
theorem tabE25 : EntryOK Try.prog 25 ⟨.func, 1, 8, Value.nilFunc, false⟩ := ⟨⟨Try.t25, info_of_run Try.typeInfo25, rfl, rfl, rfl⟩, ⟨_, Try.underlying25, rfl⟩, fun h => by cases h⟩
theorem tabE26 : EntryOK Try.prog 26 ⟨.func, 1, 8, Value.nilFunc, false⟩ := ⟨⟨Try.t26, info_of_run Try.typeInfo26, rfl, rfl, rfl⟩, ⟨_, Try.underlying26, rfl⟩, fun h => by cases h⟩
theorem tabE27 : EntryOK Try.prog 27 ⟨.func, 1, 8, Value.nilFunc, false⟩ := ⟨⟨Try.t27, info_of_run Try.typeInfo27, rfl, rfl, rfl⟩, ⟨_, Try.underlying27, rfl⟩, fun h => by cases h⟩
theorem tabE28 : EntryOK Try.prog 28 ⟨.func, 1, 8, Value.nilFunc, false⟩ := ⟨⟨Try.t28, info_of_run Try.typeInfo28, rfl, rfl, rfl⟩, ⟨_, Try.underlying28, rfl⟩, fun h => by cases h⟩
theorem tabE29 : EntryOK Try.prog 29 ⟨.func, 1, 8, Value.nilFunc, false⟩ := ⟨⟨Try.t29, info_of_run Try.typeInfo29, rfl, rfl, rfl⟩, ⟨_, Try.underlying29, rfl⟩, fun h => by cases h⟩
theorem tabE30 : EntryOK Try.prog 30 ⟨.func, 1, 8, Value.nilFunc, false⟩ := ⟨⟨Try.t30, info_of_run Try.typeInfo30, rfl, rfl, rfl⟩, ⟨_, Try.underlying30, rfl⟩, fun h => by cases h⟩
theorem tabE31 : EntryOK Try.prog 31 ⟨.other, 1, 0, (Value.tuple #[(Value.slice none 0 0), (Value.int IntKind.i64 0), (Value.bool Bool.false)]), false⟩ := ⟨⟨Try.t31, info_of_run Try.typeInfo31, rfl, rfl, rfl⟩, ⟨_, Try.underlying31, rfl⟩, fun h => by cases h⟩
theorem tabE32 : EntryOK Try.prog 32 ⟨.struct [(3, 0), (3, 1), (3, 2), (3, 3)], 4, 32, (Value.agg #[(Value.int IntKind.i64 0), (Value.int IntKind.i64 0), (Value.int IntKind.i64 0), (Value.int IntKind.i64 0)]), true⟩ := ⟨⟨Try.t32, info_of_run Try.typeInfo32, rfl, rfl, rfl⟩, ⟨_, Try.underlying32, rfl⟩, eqs_ok Try.eqGuardType32 Try.underlying32 (.inl Try.stoodInHeld32) (by decide)⟩
theorem tabE33 : EntryOK Try.prog 33 ⟨.struct [(3, 0), (3, 1), (3, 2), (3, 3)], 4, 32, (Value.agg #[(Value.int IntKind.i64 0), (Value.int IntKind.i64 0), (Value.int IntKind.i64 0), (Value.int IntKind.i64 0)]), true⟩ := ⟨⟨Try.t33, info_of_run Try.typeInfo33, rfl, rfl, rfl⟩, ⟨_, Try.underlying33, rfl⟩, eqs_ok Try.eqGuardType33 Try.underlying33 (.inl Try.stoodInHeld33) (by decide)⟩
theorem tabE34 : EntryOK Try.prog 34 ⟨.func, 1, 8, Value.nilFunc, false⟩ := ⟨⟨Try.t34, info_of_run Try.typeInfo34, rfl, rfl, rfl⟩, ⟨_, Try.underlying34, rfl⟩, fun h => by cases h⟩
theorem tabE35 : EntryOK Try.prog 35 ⟨.func, 1, 8, Value.nilFunc, false⟩ := ⟨⟨Try.t35, info_of_run Try.typeInfo35, rfl, rfl, rfl⟩, ⟨_, Try.underlying35, rfl⟩, fun h => by cases h⟩
theorem tabE36 : EntryOK Try.prog 36 ⟨.func, 1, 8, Value.nilFunc, false⟩ := ⟨⟨Try.t36, info_of_run Try.typeInfo36, rfl, rfl, rfl⟩, ⟨_, Try.underlying36, rfl⟩, fun h => by cases h⟩
theorem tabE37 : EntryOK Try.prog 37 ⟨.func, 1, 8, Value.nilFunc, false⟩ := ⟨⟨Try.t37, info_of_run Try.typeInfo37, rfl, rfl, rfl⟩, ⟨_, Try.underlying37, rfl⟩, fun h => by cases h⟩
theorem tabE38 : EntryOK Try.prog 38 ⟨.other, 1, 0, (Value.tuple #[(Value.slice none 0 0), (Value.bool Bool.false)]), false⟩ := ⟨⟨Try.t38, info_of_run Try.typeInfo38, rfl, rfl, rfl⟩, ⟨_, Try.underlying38, rfl⟩, fun h => by cases h⟩
theorem tabE39 : EntryOK Try.prog 39 ⟨.func, 1, 8, Value.nilFunc, false⟩ := ⟨⟨Try.t39, info_of_run Try.typeInfo39, rfl, rfl, rfl⟩, ⟨_, Try.underlying39, rfl⟩, fun h => by cases h⟩
theorem tabE40 : EntryOK Try.prog 40 ⟨.func, 1, 8, Value.nilFunc, false⟩ := ⟨⟨Try.t40, info_of_run Try.typeInfo40, rfl, rfl, rfl⟩, ⟨_, Try.underlying40, rfl⟩, fun h => by cases h⟩
theorem tabE41 : EntryOK Try.prog 41 ⟨.func, 1, 8, Value.nilFunc, false⟩ := ⟨⟨Try.t41, info_of_run Try.typeInfo41, rfl, rfl, rfl⟩, ⟨_, Try.underlying41, rfl⟩, fun h => by cases h⟩
theorem tabE42 : EntryOK Try.prog 42 ⟨.func, 1, 8, Value.nilFunc, false⟩ := ⟨⟨Try.t42, info_of_run Try.typeInfo42, rfl, rfl, rfl⟩, ⟨_, Try.underlying42, rfl⟩, fun h => by cases h⟩
theorem tabE43 : EntryOK Try.prog 43 ⟨.slice 3, 1, 24, (Value.slice none 0 0), false⟩ := ⟨⟨Try.t43, info_of_run Try.typeInfo43, rfl, rfl, rfl⟩, ⟨_, Try.underlying43, rfl⟩, fun h => by cases h⟩
theorem tabE44 : EntryOK Try.prog 44 ⟨.slice 22, 1, 24, (Value.slice none 0 0), false⟩ := ⟨⟨Try.t44, info_of_run Try.typeInfo44, rfl, rfl, rfl⟩, ⟨_, Try.underlying44, rfl⟩, fun h => by cases h⟩
theorem tabE45 : EntryOK Try.prog 45 ⟨.func, 1, 8, Value.nilFunc, false⟩ := ⟨⟨Try.t45, info_of_run Try.typeInfo45, rfl, rfl, rfl⟩, ⟨_, Try.underlying45, rfl⟩, fun h => by cases h⟩
theorem tabE46 : EntryOK Try.prog 46 ⟨.func, 1, 8, Value.nilFunc, false⟩ := ⟨⟨Try.t46, info_of_run Try.typeInfo46, rfl, rfl, rfl⟩, ⟨_, Try.underlying46, rfl⟩, fun h => by cases h⟩
theorem tabE47 : EntryOK Try.prog 47 ⟨.struct [(17, 0), (17, 1), (17, 2), (9, 3)], 4, 40, (Value.agg #[(Value.pointer none), (Value.pointer none), (Value.pointer none), (Value.string (ByteArray.mk #[]))]), false⟩ := ⟨⟨Try.t47, info_of_run Try.typeInfo47, rfl, rfl, rfl⟩, ⟨_, Try.underlying47, rfl⟩, fun h => by cases h⟩
theorem tabE48 : EntryOK Try.prog 48 ⟨.struct [(17, 0), (17, 1), (17, 2), (9, 3)], 4, 40, (Value.agg #[(Value.pointer none), (Value.pointer none), (Value.pointer none), (Value.string (ByteArray.mk #[]))]), false⟩ := ⟨⟨Try.t48, info_of_run Try.typeInfo48, rfl, rfl, rfl⟩, ⟨_, Try.underlying48, rfl⟩, fun h => by cases h⟩
theorem tabE49 : EntryOK Try.prog 49 ⟨.arr 0 16, 0, 0, (Value.agg #[]), false⟩ := ⟨⟨Try.t49, info_of_run Try.typeInfo49, rfl, rfl, rfl⟩, ⟨_, Try.underlying49, rfl⟩, fun h => by cases h⟩
theorem tabE50 : EntryOK Try.prog 50 ⟨.struct [(49, 0)], 0, 0, (Value.agg #[]), false⟩ := ⟨⟨Try.t50, info_of_run Try.typeInfo50, rfl, rfl, rfl⟩, ⟨_, Try.underlying50, rfl⟩, fun h => by cases h⟩
theorem tabE51 : EntryOK Try.prog 51 ⟨.struct [(49, 0)], 0, 0, (Value.agg #[]), false⟩ := ⟨⟨Try.t51, info_of_run Try.typeInfo51, rfl, rfl, rfl⟩, ⟨_, Try.underlying51, rfl⟩, fun h => by cases h⟩
theorem tabE52 : EntryOK Try.prog 52 ⟨.func, 1, 8, Value.nilFunc, false⟩ := ⟨⟨Try.t52, info_of_run Try.typeInfo52, rfl, rfl, rfl⟩, ⟨_, Try.underlying52, rfl⟩, fun h => by cases h⟩
theorem tabE53 : EntryOK Try.prog 53 ⟨.int .u32, 1, 4, (Value.int IntKind.u32 0), false⟩ := ⟨⟨Try.t53, info_of_run Try.typeInfo53, rfl, rfl, rfl⟩, ⟨_, Try.underlying53, rfl⟩, fun h => by cases h⟩
theorem tabE54 : EntryOK Try.prog 54 ⟨.int .u8, 1, 1, (Value.int IntKind.u8 0), false⟩ := ⟨⟨Try.t54, info_of_run Try.typeInfo54, rfl, rfl, rfl⟩, ⟨_, Try.underlying54, rfl⟩, fun h => by cases h⟩
theorem tabE55 : EntryOK Try.prog 55 ⟨.int .u8, 1, 1, (Value.int IntKind.u8 0), false⟩ := ⟨⟨Try.t55, info_of_run Try.typeInfo55, rfl, rfl, rfl⟩, ⟨_, Try.underlying55, rfl⟩, fun h => by cases h⟩
theorem tabE56 : EntryOK Try.prog 56 ⟨.func, 1, 8, Value.nilFunc, false⟩ := ⟨⟨Try.t56, info_of_run Try.typeInfo56, rfl, rfl, rfl⟩, ⟨_, Try.underlying56, rfl⟩, fun h => by cases h⟩
theorem tabE57 : EntryOK Try.prog 57 ⟨.ptr 5, 1, 8, (Value.pointer none), false⟩ := ⟨⟨Try.t57, info_of_run Try.typeInfo57, rfl, rfl, rfl⟩, ⟨_, Try.underlying57, rfl⟩, fun h => by cases h⟩
theorem tabE58 : EntryOK Try.prog 58 ⟨.int .i32, 1, 4, (Value.int IntKind.i32 0), false⟩ := ⟨⟨Try.t58, info_of_run Try.typeInfo58, rfl, rfl, rfl⟩, ⟨_, Try.underlying58, rfl⟩, fun h => by cases h⟩
theorem tabE59 : EntryOK Try.prog 59 ⟨.int .i32, 1, 4, (Value.int IntKind.i32 0), false⟩ := ⟨⟨Try.t59, info_of_run Try.typeInfo59, rfl, rfl, rfl⟩, ⟨_, Try.underlying59, rfl⟩, fun h => by cases h⟩
theorem tabE60 : EntryOK Try.prog 60 ⟨.struct [(12, 0), (12, 1), (53, 2), (54, 3), (5, 4), (5, 5), (55, 6), (56, 7), (57, 8), (58, 9), (59, 10)], 11, 48, (Value.agg #[(Value.int IntKind.u64 0), (Value.int IntKind.u64 0), (Value.int IntKind.u32 0), (Value.int IntKind.u8 0), (Value.int IntKind.u8 0), (Value.int IntKind.u8 0), (Value.int IntKind.u8 0), Value.nilFunc, (Value.pointer none), (Value.int IntKind.i32 0), (Value.int IntKind.i32 0)]), false⟩ := ⟨⟨Try.t60, info_of_run Try.typeInfo60, rfl, rfl, rfl⟩, ⟨_, Try.underlying60, rfl⟩, fun h => by cases h⟩
theorem tabE61 : EntryOK Try.prog 61 ⟨.struct [(12, 0), (12, 1), (53, 2), (54, 3), (5, 4), (5, 5), (55, 6), (56, 7), (57, 8), (58, 9), (59, 10)], 11, 48, (Value.agg #[(Value.int IntKind.u64 0), (Value.int IntKind.u64 0), (Value.int IntKind.u32 0), (Value.int IntKind.u8 0), (Value.int IntKind.u8 0), (Value.int IntKind.u8 0), (Value.int IntKind.u8 0), Value.nilFunc, (Value.pointer none), (Value.int IntKind.i32 0), (Value.int IntKind.i32 0)]), false⟩ := ⟨⟨Try.t61, info_of_run Try.typeInfo61, rfl, rfl, rfl⟩, ⟨_, Try.underlying61, rfl⟩, fun h => by cases h⟩
theorem tabE62 : EntryOK Try.prog 62 ⟨.other, 1, 8, (Value.pointer none), false⟩ := ⟨⟨Try.t62, info_of_run Try.typeInfo62, rfl, rfl, rfl⟩, ⟨_, Try.underlying62, rfl⟩, fun h => by cases h⟩
theorem tabOK : TabOK Try.prog tab := (tabOK_cons tabE0 (tabOK_cons tabE1 (tabOK_cons tabE2 (tabOK_cons tabE3 (tabOK_cons tabE4 (tabOK_cons tabE5 (tabOK_cons tabE6 (tabOK_cons tabE7 (tabOK_cons tabE8 (tabOK_cons tabE9 (tabOK_cons tabE10 (tabOK_cons tabE11 (tabOK_cons tabE12 (tabOK_cons tabE13 (tabOK_cons tabE14 (tabOK_cons tabE15 (tabOK_cons tabE16 (tabOK_cons tabE17 (tabOK_cons tabE18 (tabOK_cons tabE19 (tabOK_cons tabE20 (tabOK_cons tabE21 (tabOK_cons tabE22 (tabOK_cons tabE23 (tabOK_cons tabE24 (tabOK_cons tabE25 (tabOK_cons tabE26 (tabOK_cons tabE27 (tabOK_cons tabE28 (tabOK_cons tabE29 (tabOK_cons tabE30 (tabOK_cons tabE31 (tabOK_cons tabE32 (tabOK_cons tabE33 (tabOK_cons tabE34 (tabOK_cons tabE35 (tabOK_cons tabE36 (tabOK_cons tabE37 (tabOK_cons tabE38 (tabOK_cons tabE39 (tabOK_cons tabE40 (tabOK_cons tabE41 (tabOK_cons tabE42 (tabOK_cons tabE43 (tabOK_cons tabE44 (tabOK_cons tabE45 (tabOK_cons tabE46 (tabOK_cons tabE47 (tabOK_cons tabE48 (tabOK_cons tabE49 (tabOK_cons tabE50 (tabOK_cons tabE51 (tabOK_cons tabE52 (tabOK_cons tabE53 (tabOK_cons tabE54 (tabOK_cons tabE55 (tabOK_cons tabE56 (tabOK_cons tabE57 (tabOK_cons tabE58 (tabOK_cons tabE59 (tabOK_cons tabE60 (tabOK_cons tabE61 (tabOK_cons tabE62 tabOK_nil)))))))))))))))))))))))))))))))))))))))))))))))))))))))))))))))
theorem fnE3 : FnOK Try.prog 3 Try.f3 [] := ⟨Try.func3, fun vs w => Try.call3 vs w, fun _ _ => loopsOK_nil⟩
theorem fnE4 : FnOK Try.prog 4 Try.f4 [] := ⟨Try.func4, fun vs w => Try.call4 vs w, fun _ _ => loopsOK_nil⟩
theorem fnE5 : FnOK Try.prog 5 Try.f5 [] := ⟨Try.func5, fun vs w => Try.call5 vs w, fun _ _ => loopsOK_nil⟩
theorem fnE6 : FnOK Try.prog 6 Try.f6 [] := ⟨Try.func6, fun vs w => Try.call6 vs w, fun _ _ => loopsOK_nil⟩
theorem fnE7 : FnOK Try.prog 7 Try.f7 [] := ⟨Try.func7, fun vs w => Try.call7 vs w, fun _ _ => loopsOK_nil⟩
theorem fnE8 : FnOK Try.prog 8 Try.f8 [] := ⟨Try.func8, fun vs w => Try.call8 vs w, fun _ _ => loopsOK_nil⟩
theorem fnE9 : FnOK Try.prog 9 Try.f9 [] := ⟨Try.func9, fun vs w => Try.call9 vs w, fun _ _ => loopsOK_nil⟩
theorem fnE10 : FnOK Try.prog 10 Try.f10 [] := ⟨Try.func10, fun vs w => Try.call10 vs w, fun _ _ => loopsOK_nil⟩
theorem fnE11 : FnOK Try.prog 11 Try.f11 [] := ⟨Try.func11, fun vs w => Try.call11 vs w, fun _ _ => loopsOK_nil⟩
theorem fnE12 : FnOK Try.prog 12 Try.f12 [] := ⟨Try.func12, fun vs w => Try.call12 vs w, fun _ _ => loopsOK_nil⟩
theorem fnE13 : FnOK Try.prog 13 Try.f13 [] := ⟨Try.func13, fun vs w => Try.call13 vs w, fun _ _ => loopsOK_nil⟩
theorem fnE14 : FnOK Try.prog 14 Try.f14 [] := ⟨Try.func14, fun vs w => Try.call14 vs w, fun _ _ => loopsOK_nil⟩
theorem fnE15 : FnOK Try.prog 15 Try.f15 [] := ⟨Try.func15, fun vs w => Try.call15 vs w, fun _ _ => loopsOK_nil⟩
theorem fnE16 : FnOK Try.prog 16 Try.f16 [] := ⟨Try.func16, fun vs w => Try.call16 vs w, fun _ _ => loopsOK_nil⟩
theorem fnE17 : FnOK Try.prog 17 Try.f17 [] := ⟨Try.func17, fun vs w => Try.call17 vs w, fun _ _ => loopsOK_nil⟩
theorem fnE18 : FnOK Try.prog 18 Try.f18 [] := ⟨Try.func18, fun vs w => Try.call18 vs w, fun _ _ => loopsOK_nil⟩
theorem fnE19 : FnOK Try.prog 19 Try.f19 [] := ⟨Try.func19, fun vs w => Try.call19 vs w, fun _ _ => loopsOK_nil⟩
theorem fnE20 : FnOK Try.prog 20 Try.f20 [] := ⟨Try.func20, fun vs w => Try.call20 vs w, fun _ _ => loopsOK_nil⟩
theorem fnE21 : FnOK Try.prog 21 Try.f21 [] := ⟨Try.func21, fun vs w => Try.call21 vs w, fun _ _ => loopsOK_nil⟩
theorem fnE22 : FnOK Try.prog 22 Try.f22 [] := ⟨Try.func22, fun vs w => Try.call22 vs w, fun _ _ => loopsOK_nil⟩
theorem fnsOK : FnsOK Try.prog fns := (fnsOK_cons fnE3 (fnsOK_cons fnE4 (fnsOK_cons fnE5 (fnsOK_cons fnE6 (fnsOK_cons fnE7 (fnsOK_cons fnE8 (fnsOK_cons fnE9 (fnsOK_cons fnE10 (fnsOK_cons fnE11 (fnsOK_cons fnE12 (fnsOK_cons fnE13 (fnsOK_cons fnE14 (fnsOK_cons fnE15 (fnsOK_cons fnE16 (fnsOK_cons fnE17 (fnsOK_cons fnE18 (fnsOK_cons fnE19 (fnsOK_cons fnE20 (fnsOK_cons fnE21 (fnsOK_cons fnE22 fnsOK_nil))))))))))))))))))))
theorem mixed : Try.prog.follows .mixedOrders = true := Try.checked.mixed
theorem mkCall {fs : FS} {specs : Specs} {fns' : Fns} (hFS : FSOK Try.prog fs) (hSp : SpecsOK Try.prog specs) (hF : FnsOK Try.prog fns') : CallOK Try.prog (acall tab fs specs fns' 100 20) := acall_ok tabOK hFS hSp hF (fun hC C => draw_ok tabOK hFS hC mixed C) 20
theorem mkDraw {fs : FS} {call : ACall} (hFS : FSOK Try.prog fs) (hC : CallOK Try.prog call) (C : Ctx) : DrawOK Try.prog tab fs call C := draw_ok tabOK hFS hC mixed C
end Go.Proofs.Ytkdemkkepepbdaa.Sx
