/- The table of the seat's types and functions fits the program. Printed by gentab.py. -/
import Derived.Test.YtmdjpohmbkodeaaChecked
import Derived.Test.YtmdjpohmbkodeaaSxT
import Derived.Test.YtmdjpohmbkodeaaSx9
namespace Go.Proofs.Ytmdjpohmbkodeaa.Sx
open Go.RowKit
set_option maxRecDepth 100000
set_option linter.unusedVariables false
set_option linter.unusedSimpArgs false
set_option maxHeartbeats 4000000
theorem info_of_run {P : Program} {t : TypeId} {i : TypeInfo} (h : ∀ w, (typeInfo t).run P w = .ok i w) : P.info? t = some i := by
  cases hi : P.info? t with
  | some j => have := h default; simp [Go.typeInfo, hi] at this; rw [this]
  | none => have := h default; simp [Go.typeInfo, hi] at this
def notBlank : TypeDesc → Bool
  | .struct fs => fs.toList.all fun f => f.name != "_"
  | _ => true
theorem eqs_ok {P : Program} {t : TypeId} {d : TypeDesc} {b : Bool} (h1 : P.eqGuardType P.depth t = false) (h2 : P.underlying t = some d) (h3 : P.stoodInHeld t = false ∨ ∀ fs, d ≠ .struct fs) (h4 : notBlank d = true) :
    b = true → P.eqGuardType P.depth t = false ∧ ∀ fs, P.underlying t = some (.struct fs) → P.stoodInHeld t = false ∧ ∀ f ∈ fs.toList, f.name ≠ "_" := by
  refine fun _ => ⟨h1, fun fs h => ?_⟩
  rw [h2] at h; cases h
  rcases h3 with h3 | h3
  · exact ⟨h3, fun f hf => by have := List.all_eq_true.1 h4 f hf; simpa using this⟩
  · exact absurd rfl (h3 fs)
theorem tabE0 : EntryOK Try.prog 0 ⟨.other, 1, 0, (Value.tuple #[]), false⟩ := ⟨⟨Try.t0, info_of_run Try.typeInfo0, rfl, rfl, rfl⟩, ⟨_, Try.underlying0, rfl⟩, fun h => by cases h⟩
theorem tabE1 : EntryOK Try.prog 1 ⟨.func, 1, 8, Value.nilFunc, false⟩ := ⟨⟨Try.t1, info_of_run Try.typeInfo1, rfl, rfl, rfl⟩, ⟨_, Try.underlying1, rfl⟩, fun h => by cases h⟩
theorem tabE2 : EntryOK Try.prog 2 ⟨.int .i64, 1, 8, (Value.int IntKind.i64 0), false⟩ := ⟨⟨Try.t2, info_of_run Try.typeInfo2, rfl, rfl, rfl⟩, ⟨_, Try.underlying2, rfl⟩, fun h => by cases h⟩
theorem tabE3 : EntryOK Try.prog 3 ⟨.int .i64, 1, 8, (Value.int IntKind.i64 0), false⟩ := ⟨⟨Try.t3, info_of_run Try.typeInfo3, rfl, rfl, rfl⟩, ⟨_, Try.underlying3, rfl⟩, fun h => by cases h⟩
theorem tabE4 : EntryOK Try.prog 4 ⟨.bool, 1, 1, (Value.bool Bool.false), false⟩ := ⟨⟨Try.t4, info_of_run Try.typeInfo4, rfl, rfl, rfl⟩, ⟨_, Try.underlying4, rfl⟩, fun h => by cases h⟩
theorem tabE5 : EntryOK Try.prog 5 ⟨.int .u8, 1, 1, (Value.int IntKind.u8 0), false⟩ := ⟨⟨Try.t5, info_of_run Try.typeInfo5, rfl, rfl, rfl⟩, ⟨_, Try.underlying5, rfl⟩, fun h => by cases h⟩
theorem tabE6 : EntryOK Try.prog 6 ⟨.int .u8, 1, 1, (Value.int IntKind.u8 0), false⟩ := ⟨⟨Try.t6, info_of_run Try.typeInfo6, rfl, rfl, rfl⟩, ⟨_, Try.underlying6, rfl⟩, fun h => by cases h⟩
theorem tabE7 : EntryOK Try.prog 7 ⟨.struct [(2, 0), (3, 1), (4, 2), (6, 3)], 4, 24, (Value.agg #[(Value.int IntKind.i64 0), (Value.int IntKind.i64 0), (Value.bool Bool.false), (Value.int IntKind.u8 0)]), false⟩ := ⟨⟨Try.t7, info_of_run Try.typeInfo7, rfl, rfl, rfl⟩, ⟨_, Try.underlying7, rfl⟩, fun h => by cases h⟩
theorem tabE8 : EntryOK Try.prog 8 ⟨.struct [(2, 0), (3, 1), (4, 2), (6, 3)], 4, 24, (Value.agg #[(Value.int IntKind.i64 0), (Value.int IntKind.i64 0), (Value.bool Bool.false), (Value.int IntKind.u8 0)]), false⟩ := ⟨⟨Try.t8, info_of_run Try.typeInfo8, rfl, rfl, rfl⟩, ⟨_, Try.underlying8, rfl⟩, fun h => by cases h⟩
theorem tabE9 : EntryOK Try.prog 9 ⟨.str, 1, 16, (Value.string (ByteArray.mk #[])), false⟩ := ⟨⟨Try.t9, info_of_run Try.typeInfo9, rfl, rfl, rfl⟩, ⟨_, Try.underlying9, rfl⟩, fun h => by cases h⟩
theorem tabE10 : EntryOK Try.prog 10 ⟨.str, 1, 16, (Value.string (ByteArray.mk #[])), false⟩ := ⟨⟨Try.t10, info_of_run Try.typeInfo10, rfl, rfl, rfl⟩, ⟨_, Try.underlying10, rfl⟩, fun h => by cases h⟩
theorem tabE11 : EntryOK Try.prog 11 ⟨.str, 1, 16, (Value.string (ByteArray.mk #[])), false⟩ := ⟨⟨Try.t11, info_of_run Try.typeInfo11, rfl, rfl, rfl⟩, ⟨_, Try.underlying11, rfl⟩, fun h => by cases h⟩
theorem tabE12 : EntryOK Try.prog 12 ⟨.int .u64, 1, 8, (Value.int IntKind.u64 0), false⟩ := ⟨⟨Try.t12, info_of_run Try.typeInfo12, rfl, rfl, rfl⟩, ⟨_, Try.underlying12, rfl⟩, fun h => by cases h⟩
theorem tabE13 : EntryOK Try.prog 13 ⟨.struct [(9, 0), (12, 1)], 2, 24, (Value.agg #[(Value.string (ByteArray.mk #[])), (Value.int IntKind.u64 0)]), false⟩ := ⟨⟨Try.t13, info_of_run Try.typeInfo13, rfl, rfl, rfl⟩, ⟨_, Try.underlying13, rfl⟩, fun h => by cases h⟩
theorem tabE14 : EntryOK Try.prog 14 ⟨.struct [(9, 0), (12, 1)], 2, 24, (Value.agg #[(Value.string (ByteArray.mk #[])), (Value.int IntKind.u64 0)]), false⟩ := ⟨⟨Try.t14, info_of_run Try.typeInfo14, rfl, rfl, rfl⟩, ⟨_, Try.underlying14, rfl⟩, fun h => by cases h⟩
theorem tabE15 : EntryOK Try.prog 15 ⟨.ptr 135, 1, 8, (Value.pointer none), false⟩ := ⟨⟨Try.t15, info_of_run Try.typeInfo15, rfl, rfl, rfl⟩, ⟨_, Try.underlying15, rfl⟩, fun h => by cases h⟩
theorem tabE16 : EntryOK Try.prog 16 ⟨.ptr 138, 1, 8, (Value.pointer none), false⟩ := ⟨⟨Try.t16, info_of_run Try.typeInfo16, rfl, rfl, rfl⟩, ⟨_, Try.underlying16, rfl⟩, fun h => by cases h⟩
theorem tabE17 : EntryOK Try.prog 17 ⟨.ptr 148, 1, 8, (Value.pointer none), false⟩ := ⟨⟨Try.t17, info_of_run Try.typeInfo17, rfl, rfl, rfl⟩, ⟨_, Try.underlying17, rfl⟩, fun h => by cases h⟩
theorem tabE18 : EntryOK Try.prog 18 ⟨.struct [(17, 0)], 1, 8, (Value.agg #[(Value.pointer none)]), false⟩ := ⟨⟨Try.t18, info_of_run Try.typeInfo18, rfl, rfl, rfl⟩, ⟨_, Try.underlying18, rfl⟩, fun h => by cases h⟩
theorem tabE19 : EntryOK Try.prog 19 ⟨.struct [(17, 0)], 1, 8, (Value.agg #[(Value.pointer none)]), false⟩ := ⟨⟨Try.t19, info_of_run Try.typeInfo19, rfl, rfl, rfl⟩, ⟨_, Try.underlying19, rfl⟩, fun h => by cases h⟩
theorem tabE20 : EntryOK Try.prog 20 ⟨.other, 1, 16, Value.nilIface, false⟩ := ⟨⟨Try.t20, info_of_run Try.typeInfo20, rfl, rfl, rfl⟩, ⟨_, Try.underlying20, rfl⟩, fun h => by cases h⟩
theorem tabE21 : EntryOK Try.prog 21 ⟨.int .i32, 1, 4, (Value.int IntKind.i32 0), false⟩ := ⟨⟨Try.t21, info_of_run Try.typeInfo21, rfl, rfl, rfl⟩, ⟨_, Try.underlying21, rfl⟩, fun h => by cases h⟩
theorem tabE22 : EntryOK Try.prog 22 ⟨.slice 50, 1, 24, (Value.slice none 0 0), false⟩ := ⟨⟨Try.t22, info_of_run Try.typeInfo22, rfl, rfl, rfl⟩, ⟨_, Try.underlying22, rfl⟩, fun h => by cases h⟩
theorem tabE23 : EntryOK Try.prog 23 ⟨.struct [(3, 0), (3, 1), (3, 2), (3, 3), (22, 4), (3, 5)], 6, 64, (Value.agg #[(Value.int IntKind.i64 0), (Value.int IntKind.i64 0), (Value.int IntKind.i64 0), (Value.int IntKind.i64 0), (Value.slice none 0 0), (Value.int IntKind.i64 0)]), false⟩ := ⟨⟨Try.t23, info_of_run Try.typeInfo23, rfl, rfl, rfl⟩, ⟨_, Try.underlying23, rfl⟩, fun h => by cases h⟩
theorem tabE24 : EntryOK Try.prog 24 ⟨.struct [(3, 0), (3, 1), (3, 2), (3, 3), (22, 4), (3, 5)], 6, 64, (Value.agg #[(Value.int IntKind.i64 0), (Value.int IntKind.i64 0), (Value.int IntKind.i64 0), (Value.int IntKind.i64 0), (Value.slice none 0 0), (Value.int IntKind.i64 0)]), false⟩ := ⟨⟨Try.t24, info_of_run Try.typeInfo24, rfl, rfl, rfl⟩, ⟨_, Try.underlying24, rfl⟩, fun h => by cases h⟩
theorem tabE25 : EntryOK Try.prog 25 ⟨.slice 9, 1, 24, (Value.slice none 0 0), false⟩ := ⟨⟨Try.t25, info_of_run Try.typeInfo25, rfl, rfl, rfl⟩, ⟨_, Try.underlying25, rfl⟩, fun h => by cases h⟩
theorem tabE26 : EntryOK Try.prog 26 ⟨.slice 3, 1, 24, (Value.slice none 0 0), false⟩ := ⟨⟨Try.t26, info_of_run Try.typeInfo26, rfl, rfl, rfl⟩, ⟨_, Try.underlying26, rfl⟩, fun h => by cases h⟩
theorem tabE27 : EntryOK Try.prog 27 ⟨.func, 1, 8, Value.nilFunc, false⟩ := ⟨⟨Try.t27, info_of_run Try.typeInfo27, rfl, rfl, rfl⟩, ⟨_, Try.underlying27, rfl⟩, fun h => by cases h⟩
theorem tabE28 : EntryOK Try.prog 28 ⟨.slice 24, 1, 24, (Value.slice none 0 0), false⟩ := ⟨⟨Try.t28, info_of_run Try.typeInfo28, rfl, rfl, rfl⟩, ⟨_, Try.underlying28, rfl⟩, fun h => by cases h⟩
theorem tabE29 : EntryOK Try.prog 29 ⟨.func, 1, 8, Value.nilFunc, false⟩ := ⟨⟨Try.t29, info_of_run Try.typeInfo29, rfl, rfl, rfl⟩, ⟨_, Try.underlying29, rfl⟩, fun h => by cases h⟩
theorem tabE30 : EntryOK Try.prog 30 ⟨.slice 26, 1, 24, (Value.slice none 0 0), false⟩ := ⟨⟨Try.t30, info_of_run Try.typeInfo30, rfl, rfl, rfl⟩, ⟨_, Try.underlying30, rfl⟩, fun h => by cases h⟩
theorem tabE31 : EntryOK Try.prog 31 ⟨.func, 1, 8, Value.nilFunc, false⟩ := ⟨⟨Try.t31, info_of_run Try.typeInfo31, rfl, rfl, rfl⟩, ⟨_, Try.underlying31, rfl⟩, fun h => by cases h⟩
theorem tabE32 : EntryOK Try.prog 32 ⟨.other, 1, 0, (Value.tuple #[(Value.bool Bool.false), (Value.bool Bool.false)]), false⟩ := ⟨⟨Try.t32, info_of_run Try.typeInfo32, rfl, rfl, rfl⟩, ⟨_, Try.underlying32, rfl⟩, fun h => by cases h⟩
theorem tabE33 : EntryOK Try.prog 33 ⟨.func, 1, 8, Value.nilFunc, false⟩ := ⟨⟨Try.t33, info_of_run Try.typeInfo33, rfl, rfl, rfl⟩, ⟨_, Try.underlying33, rfl⟩, fun h => by cases h⟩
theorem tabE34 : EntryOK Try.prog 34 ⟨.func, 1, 8, Value.nilFunc, false⟩ := ⟨⟨Try.t34, info_of_run Try.typeInfo34, rfl, rfl, rfl⟩, ⟨_, Try.underlying34, rfl⟩, fun h => by cases h⟩
theorem tabE35 : EntryOK Try.prog 35 ⟨.int .i64, 1, 8, (Value.int IntKind.i64 0), false⟩ := ⟨⟨Try.t35, info_of_run Try.typeInfo35, rfl, rfl, rfl⟩, ⟨_, Try.underlying35, rfl⟩, fun h => by cases h⟩
theorem tabE36 : EntryOK Try.prog 36 ⟨.other, 1, 0, (Value.tuple #[(Value.slice none 0 0), (Value.int IntKind.i64 0)]), false⟩ := ⟨⟨Try.t36, info_of_run Try.typeInfo36, rfl, rfl, rfl⟩, ⟨_, Try.underlying36, rfl⟩, fun h => by cases h⟩
theorem tabE37 : EntryOK Try.prog 37 ⟨.func, 1, 8, Value.nilFunc, false⟩ := ⟨⟨Try.t37, info_of_run Try.typeInfo37, rfl, rfl, rfl⟩, ⟨_, Try.underlying37, rfl⟩, fun h => by cases h⟩
theorem tabE38 : EntryOK Try.prog 38 ⟨.func, 1, 8, Value.nilFunc, false⟩ := ⟨⟨Try.t38, info_of_run Try.typeInfo38, rfl, rfl, rfl⟩, ⟨_, Try.underlying38, rfl⟩, fun h => by cases h⟩
theorem tabE39 : EntryOK Try.prog 39 ⟨.func, 1, 8, Value.nilFunc, false⟩ := ⟨⟨Try.t39, info_of_run Try.typeInfo39, rfl, rfl, rfl⟩, ⟨_, Try.underlying39, rfl⟩, fun h => by cases h⟩
theorem tabE40 : EntryOK Try.prog 40 ⟨.func, 1, 8, Value.nilFunc, false⟩ := ⟨⟨Try.t40, info_of_run Try.typeInfo40, rfl, rfl, rfl⟩, ⟨_, Try.underlying40, rfl⟩, fun h => by cases h⟩
theorem tabE41 : EntryOK Try.prog 41 ⟨.func, 1, 8, Value.nilFunc, false⟩ := ⟨⟨Try.t41, info_of_run Try.typeInfo41, rfl, rfl, rfl⟩, ⟨_, Try.underlying41, rfl⟩, fun h => by cases h⟩
theorem tabE42 : EntryOK Try.prog 42 ⟨.func, 1, 8, Value.nilFunc, false⟩ := ⟨⟨Try.t42, info_of_run Try.typeInfo42, rfl, rfl, rfl⟩, ⟨_, Try.underlying42, rfl⟩, fun h => by cases h⟩
theorem tabE43 : EntryOK Try.prog 43 ⟨.func, 1, 8, Value.nilFunc, false⟩ := ⟨⟨Try.t43, info_of_run Try.typeInfo43, rfl, rfl, rfl⟩, ⟨_, Try.underlying43, rfl⟩, fun h => by cases h⟩
theorem tabE44 : EntryOK Try.prog 44 ⟨.func, 1, 8, Value.nilFunc, false⟩ := ⟨⟨Try.t44, info_of_run Try.typeInfo44, rfl, rfl, rfl⟩, ⟨_, Try.underlying44, rfl⟩, fun h => by cases h⟩
theorem tabE45 : EntryOK Try.prog 45 ⟨.func, 1, 8, Value.nilFunc, false⟩ := ⟨⟨Try.t45, info_of_run Try.typeInfo45, rfl, rfl, rfl⟩, ⟨_, Try.underlying45, rfl⟩, fun h => by cases h⟩
theorem tabE46 : EntryOK Try.prog 46 ⟨.other, 1, 0, (Value.tuple #[(Value.slice none 0 0), (Value.int IntKind.i64 0)]), false⟩ := ⟨⟨Try.t46, info_of_run Try.typeInfo46, rfl, rfl, rfl⟩, ⟨_, Try.underlying46, rfl⟩, fun h => by cases h⟩
theorem tabE47 : EntryOK Try.prog 47 ⟨.func, 1, 8, Value.nilFunc, false⟩ := ⟨⟨Try.t47, info_of_run Try.typeInfo47, rfl, rfl, rfl⟩, ⟨_, Try.underlying47, rfl⟩, fun h => by cases h⟩
theorem tabE48 : EntryOK Try.prog 48 ⟨.func, 1, 8, Value.nilFunc, false⟩ := ⟨⟨Try.t48, info_of_run Try.typeInfo48, rfl, rfl, rfl⟩, ⟨_, Try.underlying48, rfl⟩, fun h => by cases h⟩
theorem tabE49 : EntryOK Try.prog 49 ⟨.struct [(9, 0), (3, 1)], 2, 24, (Value.agg #[(Value.string (ByteArray.mk #[])), (Value.int IntKind.i64 0)]), true⟩ := ⟨⟨Try.t49, info_of_run Try.typeInfo49, rfl, rfl, rfl⟩, ⟨_, Try.underlying49, rfl⟩, eqs_ok Try.eqGuardType49 Try.underlying49 (.inl Try.stoodInHeld49) (by decide)⟩
theorem tabE50 : EntryOK Try.prog 50 ⟨.struct [(9, 0), (3, 1)], 2, 24, (Value.agg #[(Value.string (ByteArray.mk #[])), (Value.int IntKind.i64 0)]), true⟩ := ⟨⟨Try.t50, info_of_run Try.typeInfo50, rfl, rfl, rfl⟩, ⟨_, Try.underlying50, rfl⟩, eqs_ok Try.eqGuardType50 Try.underlying50 (.inl Try.stoodInHeld50) (by decide)⟩
theorem tabE51 : EntryOK Try.prog 51 ⟨.other, 1, 0, (Value.tuple #[(Value.int IntKind.i64 0), (Value.int IntKind.i64 0)]), false⟩ := ⟨⟨Try.t51, info_of_run Try.typeInfo51, rfl, rfl, rfl⟩, ⟨_, Try.underlying51, rfl⟩, fun h => by cases h⟩
theorem tabE52 : EntryOK Try.prog 52 ⟨.func, 1, 8, Value.nilFunc, false⟩ := ⟨⟨Try.t52, info_of_run Try.typeInfo52, rfl, rfl, rfl⟩, ⟨_, Try.underlying52, rfl⟩, fun h => by cases h⟩
theorem tabE53 : EntryOK Try.prog 53 ⟨.slice 56, 1, 24, (Value.slice none 0 0), false⟩ := ⟨⟨Try.t53, info_of_run Try.typeInfo53, rfl, rfl, rfl⟩, ⟨_, Try.underlying53, rfl⟩, fun h => by cases h⟩
theorem tabE54 : EntryOK Try.prog 54 ⟨.int .u64, 1, 8, (Value.int IntKind.u64 0), false⟩ := ⟨⟨Try.t54, info_of_run Try.typeInfo54, rfl, rfl, rfl⟩, ⟨_, Try.underlying54, rfl⟩, fun h => by cases h⟩
theorem tabE55 : EntryOK Try.prog 55 ⟨.arr 3 54, 3, 24, (Value.agg #[(Value.int IntKind.u64 0), (Value.int IntKind.u64 0), (Value.int IntKind.u64 0)]), true⟩ := ⟨⟨Try.t55, info_of_run Try.typeInfo55, rfl, rfl, rfl⟩, ⟨_, Try.underlying55, rfl⟩, eqs_ok Try.eqGuardType55 Try.underlying55 (.inr (by intro fs h; cases h)) (by decide)⟩
theorem tabE56 : EntryOK Try.prog 56 ⟨.arr 3 54, 3, 24, (Value.agg #[(Value.int IntKind.u64 0), (Value.int IntKind.u64 0), (Value.int IntKind.u64 0)]), true⟩ := ⟨⟨Try.t56, info_of_run Try.typeInfo56, rfl, rfl, rfl⟩, ⟨_, Try.underlying56, rfl⟩, eqs_ok Try.eqGuardType56 Try.underlying56 (.inr (by intro fs h; cases h)) (by decide)⟩
theorem tabE57 : EntryOK Try.prog 57 ⟨.func, 1, 8, Value.nilFunc, false⟩ := ⟨⟨Try.t57, info_of_run Try.typeInfo57, rfl, rfl, rfl⟩, ⟨_, Try.underlying57, rfl⟩, fun h => by cases h⟩
theorem tabE58 : EntryOK Try.prog 58 ⟨.func, 1, 8, Value.nilFunc, false⟩ := ⟨⟨Try.t58, info_of_run Try.typeInfo58, rfl, rfl, rfl⟩, ⟨_, Try.underlying58, rfl⟩, fun h => by cases h⟩
theorem tabE59 : EntryOK Try.prog 59 ⟨.func, 1, 8, Value.nilFunc, false⟩ := ⟨⟨Try.t59, info_of_run Try.typeInfo59, rfl, rfl, rfl⟩, ⟨_, Try.underlying59, rfl⟩, fun h => by cases h⟩
theorem tabE60 : EntryOK Try.prog 60 ⟨.func, 1, 8, Value.nilFunc, false⟩ := ⟨⟨Try.t60, info_of_run Try.typeInfo60, rfl, rfl, rfl⟩, ⟨_, Try.underlying60, rfl⟩, fun h => by cases h⟩
theorem tabE61 : EntryOK Try.prog 61 ⟨.arr 6 3, 6, 48, (Value.agg #[(Value.int IntKind.i64 0), (Value.int IntKind.i64 0), (Value.int IntKind.i64 0), (Value.int IntKind.i64 0), (Value.int IntKind.i64 0), (Value.int IntKind.i64 0)]), true⟩ := ⟨⟨Try.t61, info_of_run Try.typeInfo61, rfl, rfl, rfl⟩, ⟨_, Try.underlying61, rfl⟩, eqs_ok Try.eqGuardType61 Try.underlying61 (.inr (by intro fs h; cases h)) (by decide)⟩
theorem tabE62 : EntryOK Try.prog 62 ⟨.struct [(4, 0), (61, 1)], 7, 56, (Value.agg #[(Value.bool Bool.false), (Value.int IntKind.i64 0), (Value.int IntKind.i64 0), (Value.int IntKind.i64 0), (Value.int IntKind.i64 0), (Value.int IntKind.i64 0), (Value.int IntKind.i64 0)]), true⟩ := ⟨⟨Try.t62, info_of_run Try.typeInfo62, rfl, rfl, rfl⟩, ⟨_, Try.underlying62, rfl⟩, eqs_ok Try.eqGuardType62 Try.underlying62 (.inl Try.stoodInHeld62) (by decide)⟩
theorem tabE63 : EntryOK Try.prog 63 ⟨.struct [(4, 0), (61, 1)], 7, 56, (Value.agg #[(Value.bool Bool.false), (Value.int IntKind.i64 0), (Value.int IntKind.i64 0), (Value.int IntKind.i64 0), (Value.int IntKind.i64 0), (Value.int IntKind.i64 0), (Value.int IntKind.i64 0)]), true⟩ := ⟨⟨Try.t63, info_of_run Try.typeInfo63, rfl, rfl, rfl⟩, ⟨_, Try.underlying63, rfl⟩, eqs_ok Try.eqGuardType63 Try.underlying63 (.inl Try.stoodInHeld63) (by decide)⟩
theorem tabE64 : EntryOK Try.prog 64 ⟨.func, 1, 8, Value.nilFunc, false⟩ := ⟨⟨Try.t64, info_of_run Try.typeInfo64, rfl, rfl, rfl⟩, ⟨_, Try.underlying64, rfl⟩, fun h => by cases h⟩
theorem tabE65 : EntryOK Try.prog 65 ⟨.func, 1, 8, Value.nilFunc, false⟩ := ⟨⟨Try.t65, info_of_run Try.typeInfo65, rfl, rfl, rfl⟩, ⟨_, Try.underlying65, rfl⟩, fun h => by cases h⟩
theorem tabE66 : EntryOK Try.prog 66 ⟨.func, 1, 8, Value.nilFunc, false⟩ := ⟨⟨Try.t66, info_of_run Try.typeInfo66, rfl, rfl, rfl⟩, ⟨_, Try.underlying66, rfl⟩, fun h => by cases h⟩
theorem tabE67 : EntryOK Try.prog 67 ⟨.func, 1, 8, Value.nilFunc, false⟩ := ⟨⟨Try.t67, info_of_run Try.typeInfo67, rfl, rfl, rfl⟩, ⟨_, Try.underlying67, rfl⟩, fun h => by cases h⟩
theorem tabE68 : EntryOK Try.prog 68 ⟨.func, 1, 8, Value.nilFunc, false⟩ := ⟨⟨Try.t68, info_of_run Try.typeInfo68, rfl, rfl, rfl⟩, ⟨_, Try.underlying68, rfl⟩, fun h => by cases h⟩
theorem tabE69 : EntryOK Try.prog 69 ⟨.func, 1, 8, Value.nilFunc, false⟩ := ⟨⟨Try.t69, info_of_run Try.typeInfo69, rfl, rfl, rfl⟩, ⟨_, Try.underlying69, rfl⟩, fun h => by cases h⟩
theorem tabE70 : EntryOK Try.prog 70 ⟨.func, 1, 8, Value.nilFunc, false⟩ := ⟨⟨Try.t70, info_of_run Try.typeInfo70, rfl, rfl, rfl⟩, ⟨_, Try.underlying70, rfl⟩, fun h => by cases h⟩
theorem tabE71 : EntryOK Try.prog 71 ⟨.ptr 75, 1, 8, (Value.pointer none), false⟩ := ⟨⟨Try.t71, info_of_run Try.typeInfo71, rfl, rfl, rfl⟩, ⟨_, Try.underlying71, rfl⟩, fun h => by cases h⟩
theorem tabE72 : EntryOK Try.prog 72 ⟨.struct [(25, 0), (30, 1)], 2, 48, (Value.agg #[(Value.slice none 0 0), (Value.slice none 0 0)]), false⟩ := ⟨⟨Try.t72, info_of_run Try.typeInfo72, rfl, rfl, rfl⟩, ⟨_, Try.underlying72, rfl⟩, fun h => by cases h⟩
theorem tabE73 : EntryOK Try.prog 73 ⟨.struct [(25, 0), (30, 1)], 2, 48, (Value.agg #[(Value.slice none 0 0), (Value.slice none 0 0)]), false⟩ := ⟨⟨Try.t73, info_of_run Try.typeInfo73, rfl, rfl, rfl⟩, ⟨_, Try.underlying73, rfl⟩, fun h => by cases h⟩
theorem tabE74 : EntryOK Try.prog 74 ⟨.struct [(73, 0), (3, 2)], 3, 56, (Value.agg #[(Value.slice none 0 0), (Value.slice none 0 0), (Value.int IntKind.i64 0)]), false⟩ := ⟨⟨Try.t74, info_of_run Try.typeInfo74, rfl, rfl, rfl⟩, ⟨_, Try.underlying74, rfl⟩, fun h => by cases h⟩
theorem tabE75 : EntryOK Try.prog 75 ⟨.struct [(73, 0), (3, 2)], 3, 56, (Value.agg #[(Value.slice none 0 0), (Value.slice none 0 0), (Value.int IntKind.i64 0)]), false⟩ := ⟨⟨Try.t75, info_of_run Try.typeInfo75, rfl, rfl, rfl⟩, ⟨_, Try.underlying75, rfl⟩, fun h => by cases h⟩
theorem tabE76 : EntryOK Try.prog 76 ⟨.slice 4, 1, 24, (Value.slice none 0 0), false⟩ := ⟨⟨Try.t76, info_of_run Try.typeInfo76, rfl, rfl, rfl⟩, ⟨_, Try.underlying76, rfl⟩, fun h => by cases h⟩
theorem tabE77 : EntryOK Try.prog 77 ⟨.other, 1, 0, (Value.tuple #[(Value.slice none 0 0), (Value.int IntKind.i64 0)]), false⟩ := ⟨⟨Try.t77, info_of_run Try.typeInfo77, rfl, rfl, rfl⟩, ⟨_, Try.underlying77, rfl⟩, fun h => by cases h⟩
theorem tabE78 : EntryOK Try.prog 78 ⟨.func, 1, 8, Value.nilFunc, false⟩ := ⟨⟨Try.t78, info_of_run Try.typeInfo78, rfl, rfl, rfl⟩, ⟨_, Try.underlying78, rfl⟩, fun h => by cases h⟩
theorem tabE79 : EntryOK Try.prog 79 ⟨.slice 28, 1, 24, (Value.slice none 0 0), false⟩ := ⟨⟨Try.t79, info_of_run Try.typeInfo79, rfl, rfl, rfl⟩, ⟨_, Try.underlying79, rfl⟩, fun h => by cases h⟩
theorem tabE80 : EntryOK Try.prog 80 ⟨.func, 1, 8, Value.nilFunc, false⟩ := ⟨⟨Try.t80, info_of_run Try.typeInfo80, rfl, rfl, rfl⟩, ⟨_, Try.underlying80, rfl⟩, fun h => by cases h⟩
theorem tabE81 : EntryOK Try.prog 81 ⟨.other, 1, 0, (Value.tuple #[(Value.int IntKind.u64 0), (Value.int IntKind.u64 0)]), false⟩ := ⟨⟨Try.t81, info_of_run Try.typeInfo81, rfl, rfl, rfl⟩, ⟨_, Try.underlying81, rfl⟩, fun h => by cases h⟩
theorem tabE82 : EntryOK Try.prog 82 ⟨.func, 1, 8, Value.nilFunc, false⟩ := ⟨⟨Try.t82, info_of_run Try.typeInfo82, rfl, rfl, rfl⟩, ⟨_, Try.underlying82, rfl⟩, fun h => by cases h⟩
theorem tabE83 : EntryOK Try.prog 83 ⟨.func, 1, 8, Value.nilFunc, false⟩ := ⟨⟨Try.t83, info_of_run Try.typeInfo83, rfl, rfl, rfl⟩, ⟨_, Try.underlying83, rfl⟩, fun h => by cases h⟩
theorem tabE84 : EntryOK Try.prog 84 ⟨.func, 1, 8, Value.nilFunc, false⟩ := ⟨⟨Try.t84, info_of_run Try.typeInfo84, rfl, rfl, rfl⟩, ⟨_, Try.underlying84, rfl⟩, fun h => by cases h⟩
theorem tabE85 : EntryOK Try.prog 85 ⟨.func, 1, 8, Value.nilFunc, false⟩ := ⟨⟨Try.t85, info_of_run Try.typeInfo85, rfl, rfl, rfl⟩, ⟨_, Try.underlying85, rfl⟩, fun h => by cases h⟩
theorem tabE86 : EntryOK Try.prog 86 ⟨.func, 1, 8, Value.nilFunc, false⟩ := ⟨⟨Try.t86, info_of_run Try.typeInfo86, rfl, rfl, rfl⟩, ⟨_, Try.underlying86, rfl⟩, fun h => by cases h⟩
theorem tabE87 : EntryOK Try.prog 87 ⟨.func, 1, 8, Value.nilFunc, false⟩ := ⟨⟨Try.t87, info_of_run Try.typeInfo87, rfl, rfl, rfl⟩, ⟨_, Try.underlying87, rfl⟩, fun h => by cases h⟩
theorem tabE88 : EntryOK Try.prog 88 ⟨.other, 1, 0, (Value.tuple #[(Value.int IntKind.i64 0), (Value.int IntKind.i64 0)]), false⟩ := ⟨⟨Try.t88, info_of_run Try.typeInfo88, rfl, rfl, rfl⟩, ⟨_, Try.underlying88, rfl⟩, fun h => by cases h⟩
theorem tabE89 : EntryOK Try.prog 89 ⟨.func, 1, 8, Value.nilFunc, false⟩ := ⟨⟨Try.t89, info_of_run Try.typeInfo89, rfl, rfl, rfl⟩, ⟨_, Try.underlying89, rfl⟩, fun h => by cases h⟩
theorem tabE90 : EntryOK Try.prog 90 ⟨.func, 1, 8, Value.nilFunc, false⟩ := ⟨⟨Try.t90, info_of_run Try.typeInfo90, rfl, rfl, rfl⟩, ⟨_, Try.underlying90, rfl⟩, fun h => by cases h⟩
theorem tabE91 : EntryOK Try.prog 91 ⟨.func, 1, 8, Value.nilFunc, false⟩ := ⟨⟨Try.t91, info_of_run Try.typeInfo91, rfl, rfl, rfl⟩, ⟨_, Try.underlying91, rfl⟩, fun h => by cases h⟩
theorem tabE92 : EntryOK Try.prog 92 ⟨.func, 1, 8, Value.nilFunc, false⟩ := ⟨⟨Try.t92, info_of_run Try.typeInfo92, rfl, rfl, rfl⟩, ⟨_, Try.underlying92, rfl⟩, fun h => by cases h⟩
theorem tabE93 : EntryOK Try.prog 93 ⟨.func, 1, 8, Value.nilFunc, false⟩ := ⟨⟨Try.t93, info_of_run Try.typeInfo93, rfl, rfl, rfl⟩, ⟨_, Try.underlying93, rfl⟩, fun h => by cases h⟩
theorem tabE94 : EntryOK Try.prog 94 ⟨.func, 1, 8, Value.nilFunc, false⟩ := ⟨⟨Try.t94, info_of_run Try.typeInfo94, rfl, rfl, rfl⟩, ⟨_, Try.underlying94, rfl⟩, fun h => by cases h⟩
theorem tabE95 : EntryOK Try.prog 95 ⟨.slice 76, 1, 24, (Value.slice none 0 0), false⟩ := ⟨⟨Try.t95, info_of_run Try.typeInfo95, rfl, rfl, rfl⟩, ⟨_, Try.underlying95, rfl⟩, fun h => by cases h⟩
theorem tabE96 : EntryOK Try.prog 96 ⟨.func, 1, 8, Value.nilFunc, false⟩ := ⟨⟨Try.t96, info_of_run Try.typeInfo96, rfl, rfl, rfl⟩, ⟨_, Try.underlying96, rfl⟩, fun h => by cases h⟩
theorem tabE97 : EntryOK Try.prog 97 ⟨.func, 1, 8, Value.nilFunc, false⟩ := ⟨⟨Try.t97, info_of_run Try.typeInfo97, rfl, rfl, rfl⟩, ⟨_, Try.underlying97, rfl⟩, fun h => by cases h⟩
theorem tabE98 : EntryOK Try.prog 98 ⟨.func, 1, 8, Value.nilFunc, false⟩ := ⟨⟨Try.t98, info_of_run Try.typeInfo98, rfl, rfl, rfl⟩, ⟨_, Try.underlying98, rfl⟩, fun h => by cases h⟩
theorem tabE99 : EntryOK Try.prog 99 ⟨.func, 1, 8, Value.nilFunc, false⟩ := ⟨⟨Try.t99, info_of_run Try.typeInfo99, rfl, rfl, rfl⟩, ⟨_, Try.underlying99, rfl⟩, fun h => by cases h⟩
theorem tabE100 : EntryOK Try.prog 100 ⟨.func, 1, 8, Value.nilFunc, false⟩ := ⟨⟨Try.t100, info_of_run Try.typeInfo100, rfl, rfl, rfl⟩, ⟨_, Try.underlying100, rfl⟩, fun h => by cases h⟩
theorem tabE101 : EntryOK Try.prog 101 ⟨.int .u64, 1, 8, (Value.int IntKind.u64 0), false⟩ := ⟨⟨Try.t101, info_of_run Try.typeInfo101, rfl, rfl, rfl⟩, ⟨_, Try.underlying101, rfl⟩, fun h => by cases h⟩
theorem tabE102 : EntryOK Try.prog 102 ⟨.struct [(3, 0), (3, 1), (4, 2)], 3, 24, (Value.agg #[(Value.int IntKind.i64 0), (Value.int IntKind.i64 0), (Value.bool Bool.false)]), true⟩ := ⟨⟨Try.t102, info_of_run Try.typeInfo102, rfl, rfl, rfl⟩, ⟨_, Try.underlying102, rfl⟩, eqs_ok Try.eqGuardType102 Try.underlying102 (.inl Try.stoodInHeld102) (by decide)⟩
theorem tabE103 : EntryOK Try.prog 103 ⟨.struct [(3, 0), (3, 1), (4, 2)], 3, 24, (Value.agg #[(Value.int IntKind.i64 0), (Value.int IntKind.i64 0), (Value.bool Bool.false)]), true⟩ := ⟨⟨Try.t103, info_of_run Try.typeInfo103, rfl, rfl, rfl⟩, ⟨_, Try.underlying103, rfl⟩, eqs_ok Try.eqGuardType103 Try.underlying103 (.inl Try.stoodInHeld103) (by decide)⟩
theorem tabE104 : EntryOK Try.prog 104 ⟨.other, 1, 0, (Value.tuple #[(Value.agg #[(Value.int IntKind.i64 0), (Value.int IntKind.i64 0), (Value.bool Bool.false)]), (Value.bool Bool.false)]), false⟩ := ⟨⟨Try.t104, info_of_run Try.typeInfo104, rfl, rfl, rfl⟩, ⟨_, Try.underlying104, rfl⟩, fun h => by cases h⟩
theorem tabE105 : EntryOK Try.prog 105 ⟨.func, 1, 8, Value.nilFunc, false⟩ := ⟨⟨Try.t105, info_of_run Try.typeInfo105, rfl, rfl, rfl⟩, ⟨_, Try.underlying105, rfl⟩, fun h => by cases h⟩
theorem tabE106 : EntryOK Try.prog 106 ⟨.func, 1, 8, Value.nilFunc, false⟩ := ⟨⟨Try.t106, info_of_run Try.typeInfo106, rfl, rfl, rfl⟩, ⟨_, Try.underlying106, rfl⟩, fun h => by cases h⟩
theorem tabE107 : EntryOK Try.prog 107 ⟨.func, 1, 8, Value.nilFunc, false⟩ := ⟨⟨Try.t107, info_of_run Try.typeInfo107, rfl, rfl, rfl⟩, ⟨_, Try.underlying107, rfl⟩, fun h => by cases h⟩
theorem tabE108 : EntryOK Try.prog 108 ⟨.other, 1, 0, (Value.tuple #[(Value.slice none 0 0), (Value.bool Bool.false)]), false⟩ := ⟨⟨Try.t108, info_of_run Try.typeInfo108, rfl, rfl, rfl⟩, ⟨_, Try.underlying108, rfl⟩, fun h => by cases h⟩
theorem tabE109 : EntryOK Try.prog 109 ⟨.func, 1, 8, Value.nilFunc, false⟩ := ⟨⟨Try.t109, info_of_run Try.typeInfo109, rfl, rfl, rfl⟩, ⟨_, Try.underlying109, rfl⟩, fun h => by cases h⟩
theorem tabE110 : EntryOK Try.prog 110 ⟨.func, 1, 8, Value.nilFunc, false⟩ := ⟨⟨Try.t110, info_of_run Try.typeInfo110, rfl, rfl, rfl⟩, ⟨_, Try.underlying110, rfl⟩, fun h => by cases h⟩
theorem tabE111 : EntryOK Try.prog 111 ⟨.func, 1, 8, Value.nilFunc, false⟩ := ⟨⟨Try.t111, info_of_run Try.typeInfo111, rfl, rfl, rfl⟩, ⟨_, Try.underlying111, rfl⟩, fun h => by cases h⟩
theorem tabE112 : EntryOK Try.prog 112 ⟨.func, 1, 8, Value.nilFunc, false⟩ := ⟨⟨Try.t112, info_of_run Try.typeInfo112, rfl, rfl, rfl⟩, ⟨_, Try.underlying112, rfl⟩, fun h => by cases h⟩
theorem tabE113 : EntryOK Try.prog 113 ⟨.func, 1, 8, Value.nilFunc, false⟩ := ⟨⟨Try.t113, info_of_run Try.typeInfo113, rfl, rfl, rfl⟩, ⟨_, Try.underlying113, rfl⟩, fun h => by cases h⟩
theorem tabE114 : EntryOK Try.prog 114 ⟨.func, 1, 8, Value.nilFunc, false⟩ := ⟨⟨Try.t114, info_of_run Try.typeInfo114, rfl, rfl, rfl⟩, ⟨_, Try.underlying114, rfl⟩, fun h => by cases h⟩
theorem tabE115 : EntryOK Try.prog 115 ⟨.func, 1, 8, Value.nilFunc, false⟩ := ⟨⟨Try.t115, info_of_run Try.typeInfo115, rfl, rfl, rfl⟩, ⟨_, Try.underlying115, rfl⟩, fun h => by cases h⟩
theorem tabE116 : EntryOK Try.prog 116 ⟨.func, 1, 8, Value.nilFunc, false⟩ := ⟨⟨Try.t116, info_of_run Try.typeInfo116, rfl, rfl, rfl⟩, ⟨_, Try.underlying116, rfl⟩, fun h => by cases h⟩
theorem tabE117 : EntryOK Try.prog 117 ⟨.func, 1, 8, Value.nilFunc, false⟩ := ⟨⟨Try.t117, info_of_run Try.typeInfo117, rfl, rfl, rfl⟩, ⟨_, Try.underlying117, rfl⟩, fun h => by cases h⟩
theorem tabE118 : EntryOK Try.prog 118 ⟨.func, 1, 8, Value.nilFunc, false⟩ := ⟨⟨Try.t118, info_of_run Try.typeInfo118, rfl, rfl, rfl⟩, ⟨_, Try.underlying118, rfl⟩, fun h => by cases h⟩
theorem tabE119 : EntryOK Try.prog 119 ⟨.slice 103, 1, 24, (Value.slice none 0 0), false⟩ := ⟨⟨Try.t119, info_of_run Try.typeInfo119, rfl, rfl, rfl⟩, ⟨_, Try.underlying119, rfl⟩, fun h => by cases h⟩
theorem tabE120 : EntryOK Try.prog 120 ⟨.func, 1, 8, Value.nilFunc, false⟩ := ⟨⟨Try.t120, info_of_run Try.typeInfo120, rfl, rfl, rfl⟩, ⟨_, Try.underlying120, rfl⟩, fun h => by cases h⟩
theorem tabE121 : EntryOK Try.prog 121 ⟨.ptr 73, 1, 8, (Value.pointer none), false⟩ := ⟨⟨Try.t121, info_of_run Try.typeInfo121, rfl, rfl, rfl⟩, ⟨_, Try.underlying121, rfl⟩, fun h => by cases h⟩
theorem tabE122 : EntryOK Try.prog 122 ⟨.func, 1, 8, Value.nilFunc, false⟩ := ⟨⟨Try.t122, info_of_run Try.typeInfo122, rfl, rfl, rfl⟩, ⟨_, Try.underlying122, rfl⟩, fun h => by cases h⟩
theorem tabE123 : EntryOK Try.prog 123 ⟨.func, 1, 8, Value.nilFunc, false⟩ := ⟨⟨Try.t123, info_of_run Try.typeInfo123, rfl, rfl, rfl⟩, ⟨_, Try.underlying123, rfl⟩, fun h => by cases h⟩
theorem tabE124 : EntryOK Try.prog 124 ⟨.func, 1, 8, Value.nilFunc, false⟩ := ⟨⟨Try.t124, info_of_run Try.typeInfo124, rfl, rfl, rfl⟩, ⟨_, Try.underlying124, rfl⟩, fun h => by cases h⟩
theorem tabE125 : EntryOK Try.prog 125 ⟨.func, 1, 8, Value.nilFunc, false⟩ := ⟨⟨Try.t125, info_of_run Try.typeInfo125, rfl, rfl, rfl⟩, ⟨_, Try.underlying125, rfl⟩, fun h => by cases h⟩
theorem tabE126 : EntryOK Try.prog 126 ⟨.func, 1, 8, Value.nilFunc, false⟩ := ⟨⟨Try.t126, info_of_run Try.typeInfo126, rfl, rfl, rfl⟩, ⟨_, Try.underlying126, rfl⟩, fun h => by cases h⟩
theorem tabE127 : EntryOK Try.prog 127 ⟨.func, 1, 8, Value.nilFunc, false⟩ := ⟨⟨Try.t127, info_of_run Try.typeInfo127, rfl, rfl, rfl⟩, ⟨_, Try.underlying127, rfl⟩, fun h => by cases h⟩
theorem tabE128 : EntryOK Try.prog 128 ⟨.func, 1, 8, Value.nilFunc, false⟩ := ⟨⟨Try.t128, info_of_run Try.typeInfo128, rfl, rfl, rfl⟩, ⟨_, Try.underlying128, rfl⟩, fun h => by cases h⟩
theorem tabE129 : EntryOK Try.prog 129 ⟨.func, 1, 8, Value.nilFunc, false⟩ := ⟨⟨Try.t129, info_of_run Try.typeInfo129, rfl, rfl, rfl⟩, ⟨_, Try.underlying129, rfl⟩, fun h => by cases h⟩
theorem tabE130 : EntryOK Try.prog 130 ⟨.func, 1, 8, Value.nilFunc, false⟩ := ⟨⟨Try.t130, info_of_run Try.typeInfo130, rfl, rfl, rfl⟩, ⟨_, Try.underlying130, rfl⟩, fun h => by cases h⟩
theorem tabE131 : EntryOK Try.prog 131 ⟨.func, 1, 8, Value.nilFunc, false⟩ := ⟨⟨Try.t131, info_of_run Try.typeInfo131, rfl, rfl, rfl⟩, ⟨_, Try.underlying131, rfl⟩, fun h => by cases h⟩
theorem tabE132 : EntryOK Try.prog 132 ⟨.func, 1, 8, Value.nilFunc, false⟩ := ⟨⟨Try.t132, info_of_run Try.typeInfo132, rfl, rfl, rfl⟩, ⟨_, Try.underlying132, rfl⟩, fun h => by cases h⟩
theorem tabE133 : EntryOK Try.prog 133 ⟨.func, 1, 8, Value.nilFunc, false⟩ := ⟨⟨Try.t133, info_of_run Try.typeInfo133, rfl, rfl, rfl⟩, ⟨_, Try.underlying133, rfl⟩, fun h => by cases h⟩
theorem tabE134 : EntryOK Try.prog 134 ⟨.struct [(17, 0), (17, 1), (17, 2), (9, 3)], 4, 40, (Value.agg #[(Value.pointer none), (Value.pointer none), (Value.pointer none), (Value.string (ByteArray.mk #[]))]), false⟩ := ⟨⟨Try.t134, info_of_run Try.typeInfo134, rfl, rfl, rfl⟩, ⟨_, Try.underlying134, rfl⟩, fun h => by cases h⟩
theorem tabE135 : EntryOK Try.prog 135 ⟨.struct [(17, 0), (17, 1), (17, 2), (9, 3)], 4, 40, (Value.agg #[(Value.pointer none), (Value.pointer none), (Value.pointer none), (Value.string (ByteArray.mk #[]))]), false⟩ := ⟨⟨Try.t135, info_of_run Try.typeInfo135, rfl, rfl, rfl⟩, ⟨_, Try.underlying135, rfl⟩, fun h => by cases h⟩
theorem tabE136 : EntryOK Try.prog 136 ⟨.arr 0 16, 0, 0, (Value.agg #[]), false⟩ := ⟨⟨Try.t136, info_of_run Try.typeInfo136, rfl, rfl, rfl⟩, ⟨_, Try.underlying136, rfl⟩, fun h => by cases h⟩
theorem tabE137 : EntryOK Try.prog 137 ⟨.struct [(136, 0)], 0, 0, (Value.agg #[]), false⟩ := ⟨⟨Try.t137, info_of_run Try.typeInfo137, rfl, rfl, rfl⟩, ⟨_, Try.underlying137, rfl⟩, fun h => by cases h⟩
theorem tabE138 : EntryOK Try.prog 138 ⟨.struct [(136, 0)], 0, 0, (Value.agg #[]), false⟩ := ⟨⟨Try.t138, info_of_run Try.typeInfo138, rfl, rfl, rfl⟩, ⟨_, Try.underlying138, rfl⟩, fun h => by cases h⟩
theorem tabE139 : EntryOK Try.prog 139 ⟨.func, 1, 8, Value.nilFunc, false⟩ := ⟨⟨Try.t139, info_of_run Try.typeInfo139, rfl, rfl, rfl⟩, ⟨_, Try.underlying139, rfl⟩, fun h => by cases h⟩
theorem tabE140 : EntryOK Try.prog 140 ⟨.int .u32, 1, 4, (Value.int IntKind.u32 0), false⟩ := ⟨⟨Try.t140, info_of_run Try.typeInfo140, rfl, rfl, rfl⟩, ⟨_, Try.underlying140, rfl⟩, fun h => by cases h⟩
theorem tabE141 : EntryOK Try.prog 141 ⟨.int .u8, 1, 1, (Value.int IntKind.u8 0), false⟩ := ⟨⟨Try.t141, info_of_run Try.typeInfo141, rfl, rfl, rfl⟩, ⟨_, Try.underlying141, rfl⟩, fun h => by cases h⟩
theorem tabE142 : EntryOK Try.prog 142 ⟨.int .u8, 1, 1, (Value.int IntKind.u8 0), false⟩ := ⟨⟨Try.t142, info_of_run Try.typeInfo142, rfl, rfl, rfl⟩, ⟨_, Try.underlying142, rfl⟩, fun h => by cases h⟩
theorem tabE143 : EntryOK Try.prog 143 ⟨.func, 1, 8, Value.nilFunc, false⟩ := ⟨⟨Try.t143, info_of_run Try.typeInfo143, rfl, rfl, rfl⟩, ⟨_, Try.underlying143, rfl⟩, fun h => by cases h⟩
theorem tabE144 : EntryOK Try.prog 144 ⟨.ptr 5, 1, 8, (Value.pointer none), false⟩ := ⟨⟨Try.t144, info_of_run Try.typeInfo144, rfl, rfl, rfl⟩, ⟨_, Try.underlying144, rfl⟩, fun h => by cases h⟩
theorem tabE145 : EntryOK Try.prog 145 ⟨.int .i32, 1, 4, (Value.int IntKind.i32 0), false⟩ := ⟨⟨Try.t145, info_of_run Try.typeInfo145, rfl, rfl, rfl⟩, ⟨_, Try.underlying145, rfl⟩, fun h => by cases h⟩
theorem tabE146 : EntryOK Try.prog 146 ⟨.int .i32, 1, 4, (Value.int IntKind.i32 0), false⟩ := ⟨⟨Try.t146, info_of_run Try.typeInfo146, rfl, rfl, rfl⟩, ⟨_, Try.underlying146, rfl⟩, fun h => by cases h⟩
theorem tabE147 : EntryOK Try.prog 147 ⟨.struct [(12, 0), (12, 1), (140, 2), (141, 3), (5, 4), (5, 5), (142, 6), (143, 7), (144, 8), (145, 9), (146, 10)], 11, 48, (Value.agg #[(Value.int IntKind.u64 0), (Value.int IntKind.u64 0), (Value.int IntKind.u32 0), (Value.int IntKind.u8 0), (Value.int IntKind.u8 0), (Value.int IntKind.u8 0), (Value.int IntKind.u8 0), Value.nilFunc, (Value.pointer none), (Value.int IntKind.i32 0), (Value.int IntKind.i32 0)]), false⟩ := ⟨⟨Try.t147, info_of_run Try.typeInfo147, rfl, rfl, rfl⟩, ⟨_, Try.underlying147, rfl⟩, fun h => by cases h⟩
theorem tabE148 : EntryOK Try.prog 148 ⟨.struct [(12, 0), (12, 1), (140, 2), (141, 3), (5, 4), (5, 5), (142, 6), (143, 7), (144, 8), (145, 9), (146, 10)], 11, 48, (Value.agg #[(Value.int IntKind.u64 0), (Value.int IntKind.u64 0), (Value.int IntKind.u32 0), (Value.int IntKind.u8 0), (Value.int IntKind.u8 0), (Value.int IntKind.u8 0), (Value.int IntKind.u8 0), Value.nilFunc, (Value.pointer none), (Value.int IntKind.i32 0), (Value.int IntKind.i32 0)]), false⟩ := ⟨⟨Try.t148, info_of_run Try.typeInfo148, rfl, rfl, rfl⟩, ⟨_, Try.underlying148, rfl⟩, fun h => by cases h⟩
theorem tabE149 : EntryOK Try.prog 149 ⟨.other, 1, 8, (Value.pointer none), false⟩ := ⟨⟨Try.t149, info_of_run Try.typeInfo149, rfl, rfl, rfl⟩, ⟨_, Try.underlying149, rfl⟩, fun h => by cases h⟩
theorem tabOK : TabOK Try.prog tab := (tabOK_cons tabE0 (tabOK_cons tabE1 (tabOK_cons tabE2 (tabOK_cons tabE3 (tabOK_cons tabE4 (tabOK_cons tabE5 (tabOK_cons tabE6 (tabOK_cons tabE7 (tabOK_cons tabE8 (tabOK_cons tabE9 (tabOK_cons tabE10 (tabOK_cons tabE11 (tabOK_cons tabE12 (tabOK_cons tabE13 (tabOK_cons tabE14 (tabOK_cons tabE15 (tabOK_cons tabE16 (tabOK_cons tabE17 (tabOK_cons tabE18 (tabOK_cons tabE19 (tabOK_cons tabE20 (tabOK_cons tabE21 (tabOK_cons tabE22 (tabOK_cons tabE23 (tabOK_cons tabE24 (tabOK_cons tabE25 (tabOK_cons tabE26 (tabOK_cons tabE27 (tabOK_cons tabE28 (tabOK_cons tabE29 (tabOK_cons tabE30 (tabOK_cons tabE31 (tabOK_cons tabE32 (tabOK_cons tabE33 (tabOK_cons tabE34 (tabOK_cons tabE35 (tabOK_cons tabE36 (tabOK_cons tabE37 (tabOK_cons tabE38 (tabOK_cons tabE39 (tabOK_cons tabE40 (tabOK_cons tabE41 (tabOK_cons tabE42 (tabOK_cons tabE43 (tabOK_cons tabE44 (tabOK_cons tabE45 (tabOK_cons tabE46 (tabOK_cons tabE47 (tabOK_cons tabE48 (tabOK_cons tabE49 (tabOK_cons tabE50 (tabOK_cons tabE51 (tabOK_cons tabE52 (tabOK_cons tabE53 (tabOK_cons tabE54 (tabOK_cons tabE55 (tabOK_cons tabE56 (tabOK_cons tabE57 (tabOK_cons tabE58 (tabOK_cons tabE59 (tabOK_cons tabE60 (tabOK_cons tabE61 (tabOK_cons tabE62 (tabOK_cons tabE63 (tabOK_cons tabE64 (tabOK_cons tabE65 (tabOK_cons tabE66 (tabOK_cons tabE67 (tabOK_cons tabE68 (tabOK_cons tabE69 (tabOK_cons tabE70 (tabOK_cons tabE71 (tabOK_cons tabE72 (tabOK_cons tabE73 (tabOK_cons tabE74 (tabOK_cons tabE75 (tabOK_cons tabE76 (tabOK_cons tabE77 (tabOK_cons tabE78 (tabOK_cons tabE79 (tabOK_cons tabE80 (tabOK_cons tabE81 (tabOK_cons tabE82 (tabOK_cons tabE83 (tabOK_cons tabE84 (tabOK_cons tabE85 (tabOK_cons tabE86 (tabOK_cons tabE87 (tabOK_cons tabE88 (tabOK_cons tabE89 (tabOK_cons tabE90 (tabOK_cons tabE91 (tabOK_cons tabE92 (tabOK_cons tabE93 (tabOK_cons tabE94 (tabOK_cons tabE95 (tabOK_cons tabE96 (tabOK_cons tabE97 (tabOK_cons tabE98 (tabOK_cons tabE99 (tabOK_cons tabE100 (tabOK_cons tabE101 (tabOK_cons tabE102 (tabOK_cons tabE103 (tabOK_cons tabE104 (tabOK_cons tabE105 (tabOK_cons tabE106 (tabOK_cons tabE107 (tabOK_cons tabE108 (tabOK_cons tabE109 (tabOK_cons tabE110 (tabOK_cons tabE111 (tabOK_cons tabE112 (tabOK_cons tabE113 (tabOK_cons tabE114 (tabOK_cons tabE115 (tabOK_cons tabE116 (tabOK_cons tabE117 (tabOK_cons tabE118 (tabOK_cons tabE119 (tabOK_cons tabE120 (tabOK_cons tabE121 (tabOK_cons tabE122 (tabOK_cons tabE123 (tabOK_cons tabE124 (tabOK_cons tabE125 (tabOK_cons tabE126 (tabOK_cons tabE127 (tabOK_cons tabE128 (tabOK_cons tabE129 (tabOK_cons tabE130 (tabOK_cons tabE131 (tabOK_cons tabE132 (tabOK_cons tabE133 (tabOK_cons tabE134 (tabOK_cons tabE135 (tabOK_cons tabE136 (tabOK_cons tabE137 (tabOK_cons tabE138 (tabOK_cons tabE139 (tabOK_cons tabE140 (tabOK_cons tabE141 (tabOK_cons tabE142 (tabOK_cons tabE143 (tabOK_cons tabE144 (tabOK_cons tabE145 (tabOK_cons tabE146 (tabOK_cons tabE147 (tabOK_cons tabE148 (tabOK_cons tabE149 tabOK_nil))))))))))))))))))))))))))))))))))))))))))))))))))))))))))))))))))))))))))))))))))))))))))))))))))))))))))))))))))))))))))))))))))))))))))))))))))))))
theorem fnE3 : FnOK Try.prog 3 Try.f3 [] := ⟨Try.func3, fun vs w => Try.call3 vs w, fun _ _ => loopsOK_nil⟩
theorem fnE4 : FnOK Try.prog 4 Try.f4 [] := ⟨Try.func4, fun vs w => Try.call4 vs w, fun _ _ => loopsOK_nil⟩
theorem fnE5 : FnOK Try.prog 5 Try.f5 [] := ⟨Try.func5, fun vs w => Try.call5 vs w, fun _ _ => loopsOK_nil⟩
theorem fnE6 : FnOK Try.prog 6 Try.f6 [] := ⟨Try.func6, fun vs w => Try.call6 vs w, fun _ _ => loopsOK_nil⟩
theorem fnE7 : FnOK Try.prog 7 Try.f7 [] := ⟨Try.func7, fun vs w => Try.call7 vs w, fun _ _ => loopsOK_nil⟩
theorem fnE8 : FnOK Try.prog 8 Try.f8 [] := ⟨Try.func8, fun vs w => Try.call8 vs w, fun _ _ => loopsOK_nil⟩
theorem fnE9 : FnOK Try.prog 9 Try.f9 [] := ⟨Try.func9, fun vs w => Try.call9 vs w, fun _ _ => loopsOK_nil⟩
theorem fnE10 : FnOK Try.prog 10 Try.f10 [] := ⟨Try.func10, fun vs w => Try.call10 vs w, fun _ _ => loopsOK_nil⟩
theorem fnE11 : FnOK Try.prog 11 Try.f11 [] := ⟨Try.func11, fun vs w => Try.call11 vs w, fun _ _ => loopsOK_nil⟩
theorem fnE12 : FnOK Try.prog 12 Try.f12 [] := ⟨Try.func12, fun vs w => Try.call12 vs w, fun _ _ => loopsOK_nil⟩
theorem fnE13 : FnOK Try.prog 13 Try.f13 [] := ⟨Try.func13, fun vs w => Try.call13 vs w, fun _ _ => loopsOK_nil⟩
theorem fnE14 : FnOK Try.prog 14 Try.f14 [] := ⟨Try.func14, fun vs w => Try.call14 vs w, fun _ _ => loopsOK_nil⟩
theorem fnE15 : FnOK Try.prog 15 Try.f15 [] := ⟨Try.func15, fun vs w => Try.call15 vs w, fun _ _ => loopsOK_nil⟩
theorem fnE16 : FnOK Try.prog 16 Try.f16 [] := ⟨Try.func16, fun vs w => Try.call16 vs w, fun _ _ => loopsOK_nil⟩
theorem fnE17 : FnOK Try.prog 17 Try.f17 [] := ⟨Try.func17, fun vs w => Try.call17 vs w, fun _ _ => loopsOK_nil⟩
theorem fnE18 : FnOK Try.prog 18 Try.f18 [] := ⟨Try.func18, fun vs w => Try.call18 vs w, fun _ _ => loopsOK_nil⟩
theorem fnE19 : FnOK Try.prog 19 Try.f19 [] := ⟨Try.func19, fun vs w => Try.call19 vs w, fun _ _ => loopsOK_nil⟩
theorem fnE20 : FnOK Try.prog 20 Try.f20 [] := ⟨Try.func20, fun vs w => Try.call20 vs w, fun _ _ => loopsOK_nil⟩
theorem fnE21 : FnOK Try.prog 21 Try.f21 [] := ⟨Try.func21, fun vs w => Try.call21 vs w, fun _ _ => loopsOK_nil⟩
theorem fnE22 : FnOK Try.prog 22 Try.f22 [] := ⟨Try.func22, fun vs w => Try.call22 vs w, fun _ _ => loopsOK_nil⟩
theorem fnE23 : FnOK Try.prog 23 Try.f23 [] := ⟨Try.func23, fun vs w => Try.call23 vs w, fun _ _ => loopsOK_nil⟩
theorem fnE24 : FnOK Try.prog 24 Try.f24 [] := ⟨Try.func24, fun vs w => Try.call24 vs w, fun _ _ => loopsOK_nil⟩
theorem fnE25 : FnOK Try.prog 25 Try.f25 [] := ⟨Try.func25, fun vs w => Try.call25 vs w, fun _ _ => loopsOK_nil⟩
theorem fnE26 : FnOK Try.prog 26 Try.f26 [] := ⟨Try.func26, fun vs w => Try.call26 vs w, fun _ _ => loopsOK_nil⟩
theorem fnE27 : FnOK Try.prog 27 Try.f27 [] := ⟨Try.func27, fun vs w => Try.call27 vs w, fun _ _ => loopsOK_nil⟩
theorem fnE28 : FnOK Try.prog 28 Try.f28 [] := ⟨Try.func28, fun vs w => Try.call28 vs w, fun _ _ => loopsOK_nil⟩
theorem fnE29 : FnOK Try.prog 29 Try.f29 [] := ⟨Try.func29, fun vs w => Try.call29 vs w, fun _ _ => loopsOK_nil⟩
theorem fnE30 : FnOK Try.prog 30 Try.f30 [] := ⟨Try.func30, fun vs w => Try.call30 vs w, fun _ _ => loopsOK_nil⟩
theorem fnE31 : FnOK Try.prog 31 Try.f31 [] := ⟨Try.func31, fun vs w => Try.call31 vs w, fun _ _ => loopsOK_nil⟩
theorem fnE32 : FnOK Try.prog 32 Try.f32 [] := ⟨Try.func32, fun vs w => Try.call32 vs w, fun _ _ => loopsOK_nil⟩
theorem fnE33 : FnOK Try.prog 33 Try.f33 [] := ⟨Try.func33, fun vs w => Try.call33 vs w, fun _ _ => loopsOK_nil⟩
theorem fnE34 : FnOK Try.prog 34 Try.f34 [] := ⟨Try.func34, fun vs w => Try.call34 vs w, fun _ _ => loopsOK_nil⟩
theorem fnE35 : FnOK Try.prog 35 Try.f35 [] := ⟨Try.func35, fun vs w => Try.call35 vs w, fun _ _ => loopsOK_nil⟩
theorem fnE36 : FnOK Try.prog 36 Try.f36 [] := ⟨Try.func36, fun vs w => Try.call36 vs w, fun _ _ => loopsOK_nil⟩
theorem fnE37 : FnOK Try.prog 37 Try.f37 [] := ⟨Try.func37, fun vs w => Try.call37 vs w, fun _ _ => loopsOK_nil⟩
theorem fnE38 : FnOK Try.prog 38 Try.f38 [] := ⟨Try.func38, fun vs w => Try.call38 vs w, fun _ _ => loopsOK_nil⟩
theorem fnE39 : FnOK Try.prog 39 Try.f39 [] := ⟨Try.func39, fun vs w => Try.call39 vs w, fun _ _ => loopsOK_nil⟩
theorem fnE40 : FnOK Try.prog 40 Try.f40 [] := ⟨Try.func40, fun vs w => Try.call40 vs w, fun _ _ => loopsOK_nil⟩
theorem fnE41 : FnOK Try.prog 41 Try.f41 [] := ⟨Try.func41, fun vs w => Try.call41 vs w, fun _ _ => loopsOK_nil⟩
theorem fnE42 : FnOK Try.prog 42 Try.f42 [] := ⟨Try.func42, fun vs w => Try.call42 vs w, fun _ _ => loopsOK_nil⟩
theorem fnE43 : FnOK Try.prog 43 Try.f43 [] := ⟨Try.func43, fun vs w => Try.call43 vs w, fun _ _ => loopsOK_nil⟩
theorem fnE44 : FnOK Try.prog 44 Try.f44 [] := ⟨Try.func44, fun vs w => Try.call44 vs w, fun _ _ => loopsOK_nil⟩
theorem fnE46 : FnOK Try.prog 46 Try.f46 [] := ⟨Try.func46, fun vs w => Try.call46 vs w, fun _ _ => loopsOK_nil⟩
theorem fnE47 : FnOK Try.prog 47 Try.f47 [] := ⟨Try.func47, fun vs w => Try.call47 vs w, fun _ _ => loopsOK_nil⟩
theorem fnE48 : FnOK Try.prog 48 Try.f48 [] := ⟨Try.func48, fun vs w => Try.call48 vs w, fun _ _ => loopsOK_nil⟩
theorem fnE49 : FnOK Try.prog 49 Try.f49 [] := ⟨Try.func49, fun vs w => Try.call49 vs w, fun _ _ => loopsOK_nil⟩
theorem fnE50 : FnOK Try.prog 50 Try.f50 [] := ⟨Try.func50, fun vs w => Try.call50 vs w, fun _ _ => loopsOK_nil⟩
theorem fnE51 : FnOK Try.prog 51 Try.f51 [] := ⟨Try.func51, fun vs w => Try.call51 vs w, fun _ _ => loopsOK_nil⟩
theorem fnE52 : FnOK Try.prog 52 Try.f52 [] := ⟨Try.func52, fun vs w => Try.call52 vs w, fun _ _ => loopsOK_nil⟩
theorem fnE53 : FnOK Try.prog 53 Try.f53 [] := ⟨Try.func53, fun vs w => Try.call53 vs w, fun _ _ => loopsOK_nil⟩
theorem fnE54 : FnOK Try.prog 54 Try.f54 [] := ⟨Try.func54, fun vs w => Try.call54 vs w, fun _ _ => loopsOK_nil⟩
theorem fnE55 : FnOK Try.prog 55 Try.f55 [] := ⟨Try.func55, fun vs w => Try.call55 vs w, fun _ _ => loopsOK_nil⟩
theorem fnE56 : FnOK Try.prog 56 Try.f56 [] := ⟨Try.func56, fun vs w => Try.call56 vs w, fun _ _ => loopsOK_nil⟩
theorem fnE57 : FnOK Try.prog 57 Try.f57 [] := ⟨Try.func57, fun vs w => Try.call57 vs w, fun _ _ => loopsOK_nil⟩
theorem fnE58 : FnOK Try.prog 58 Try.f58 [] := ⟨Try.func58, fun vs w => Try.call58 vs w, fun _ _ => loopsOK_nil⟩
theorem fnE59 : FnOK Try.prog 59 Try.f59 [] := ⟨Try.func59, fun vs w => Try.call59 vs w, fun _ _ => loopsOK_nil⟩
theorem fnE60 : FnOK Try.prog 60 Try.f60 [] := ⟨Try.func60, fun vs w => Try.call60 vs w, fun _ _ => loopsOK_nil⟩
theorem fnE61 : FnOK Try.prog 61 Try.f61 [] := ⟨Try.func61, fun vs w => Try.call61 vs w, fun _ _ => loopsOK_nil⟩
theorem fnE62 : FnOK Try.prog 62 Try.f62 [] := ⟨Try.func62, fun vs w => Try.call62 vs w, fun _ _ => loopsOK_nil⟩
theorem fnE63 : FnOK Try.prog 63 Try.f63 [] := ⟨Try.func63, fun vs w => Try.call63 vs w, fun _ _ => loopsOK_nil⟩
theorem fnE64 : FnOK Try.prog 64 Try.f64 [] := ⟨Try.func64, fun vs w => Try.call64 vs w, fun _ _ => loopsOK_nil⟩
theorem fnE65 : FnOK Try.prog 65 Try.f65 [] := ⟨Try.func65, fun vs w => Try.call65 vs w, fun _ _ => loopsOK_nil⟩
theorem fnE66 : FnOK Try.prog 66 Try.f66 [] := ⟨Try.func66, fun vs w => Try.call66 vs w, fun _ _ => loopsOK_nil⟩
theorem fnE67 : FnOK Try.prog 67 Try.f67 [] := ⟨Try.func67, fun vs w => Try.call67 vs w, fun _ _ => loopsOK_nil⟩
theorem fnE68 : FnOK Try.prog 68 Try.f68 [] := ⟨Try.func68, fun vs w => Try.call68 vs w, fun _ _ => loopsOK_nil⟩
theorem fnE69 : FnOK Try.prog 69 Try.f69 [] := ⟨Try.func69, fun vs w => Try.call69 vs w, fun _ _ => loopsOK_nil⟩
theorem fnE70 : FnOK Try.prog 70 Try.f70 [] := ⟨Try.func70, fun vs w => Try.call70 vs w, fun _ _ => loopsOK_nil⟩
theorem fnE71 : FnOK Try.prog 71 Try.f71 [] := ⟨Try.func71, fun vs w => Try.call71 vs w, fun _ _ => loopsOK_nil⟩
theorem fnE72 : FnOK Try.prog 72 Try.f72 [] := ⟨Try.func72, fun vs w => Try.call72 vs w, fun _ _ => loopsOK_nil⟩
theorem fnE73 : FnOK Try.prog 73 Try.f73 [] := ⟨Try.func73, fun vs w => Try.call73 vs w, fun _ _ => loopsOK_nil⟩
theorem fnE74 : FnOK Try.prog 74 Try.f74 [] := ⟨Try.func74, fun vs w => Try.call74 vs w, fun _ _ => loopsOK_nil⟩
theorem fnE75 : FnOK Try.prog 75 Try.f75 [] := ⟨Try.func75, fun vs w => Try.call75 vs w, fun _ _ => loopsOK_nil⟩
theorem fnE76 : FnOK Try.prog 76 Try.f76 [] := ⟨Try.func76, fun vs w => Try.call76 vs w, fun _ _ => loopsOK_nil⟩
theorem fnE77 : FnOK Try.prog 77 Try.f77 [] := ⟨Try.func77, fun vs w => Try.call77 vs w, fun _ _ => loopsOK_nil⟩
theorem fnE78 : FnOK Try.prog 78 Try.f78 [] := ⟨Try.func78, fun vs w => Try.call78 vs w, fun _ _ => loopsOK_nil⟩
theorem fnE79 : FnOK Try.prog 79 Try.f79 [] := ⟨Try.func79, fun vs w => Try.call79 vs w, fun _ _ => loopsOK_nil⟩
theorem fnE80 : FnOK Try.prog 80 Try.f80 [] := ⟨Try.func80, fun vs w => Try.call80 vs w, fun _ _ => loopsOK_nil⟩
theorem fnE81 : FnOK Try.prog 81 Try.f81 [] := ⟨Try.func81, fun vs w => Try.call81 vs w, fun _ _ => loopsOK_nil⟩
theorem fnE82 : FnOK Try.prog 82 Try.f82 [] := ⟨Try.func82, fun vs w => Try.call82 vs w, fun _ _ => loopsOK_nil⟩
theorem fnE83 : FnOK Try.prog 83 Try.f83 [] := ⟨Try.func83, fun vs w => Try.call83 vs w, fun _ _ => loopsOK_nil⟩
theorem fnE84 : FnOK Try.prog 84 Try.f84 [] := ⟨Try.func84, fun vs w => Try.call84 vs w, fun _ _ => loopsOK_nil⟩
theorem fnE85 : FnOK Try.prog 85 Try.f85 [] := ⟨Try.func85, fun vs w => Try.call85 vs w, fun _ _ => loopsOK_nil⟩
theorem fnE86 : FnOK Try.prog 86 Try.f86 [] := ⟨Try.func86, fun vs w => Try.call86 vs w, fun _ _ => loopsOK_nil⟩
theorem fnE87 : FnOK Try.prog 87 Try.f87 [] := ⟨Try.func87, fun vs w => Try.call87 vs w, fun _ _ => loopsOK_nil⟩
theorem fnE88 : FnOK Try.prog 88 Try.f88 [] := ⟨Try.func88, fun vs w => Try.call88 vs w, fun _ _ => loopsOK_nil⟩
theorem fnE89 : FnOK Try.prog 89 Try.f89 [] := ⟨Try.func89, fun vs w => Try.call89 vs w, fun _ _ => loopsOK_nil⟩
theorem fnE90 : FnOK Try.prog 90 Try.f90 [] := ⟨Try.func90, fun vs w => Try.call90 vs w, fun _ _ => loopsOK_nil⟩
theorem fnE91 : FnOK Try.prog 91 Try.f91 [] := ⟨Try.func91, fun vs w => Try.call91 vs w, fun _ _ => loopsOK_nil⟩
theorem fnE92 : FnOK Try.prog 92 Try.f92 [] := ⟨Try.func92, fun vs w => Try.call92 vs w, fun _ _ => loopsOK_nil⟩
theorem fnE93 : FnOK Try.prog 93 Try.f93 [] := ⟨Try.func93, fun vs w => Try.call93 vs w, fun _ _ => loopsOK_nil⟩
theorem fnE94 : FnOK Try.prog 94 Try.f94 [] := ⟨Try.func94, fun vs w => Try.call94 vs w, fun _ _ => loopsOK_nil⟩
theorem fnE95 : FnOK Try.prog 95 Try.f95 [] := ⟨Try.func95, fun vs w => Try.call95 vs w, fun _ _ => loopsOK_nil⟩
theorem fnE96 : FnOK Try.prog 96 Try.f96 [] := ⟨Try.func96, fun vs w => Try.call96 vs w, fun _ _ => loopsOK_nil⟩
theorem fnE97 : FnOK Try.prog 97 Try.f97 [] := ⟨Try.func97, fun vs w => Try.call97 vs w, fun _ _ => loopsOK_nil⟩
theorem fnE98 : FnOK Try.prog 98 Try.f98 [] := ⟨Try.func98, fun vs w => Try.call98 vs w, fun _ _ => loopsOK_nil⟩
theorem fnE99 : FnOK Try.prog 99 Try.f99 [] := ⟨Try.func99, fun vs w => Try.call99 vs w, fun _ _ => loopsOK_nil⟩
theorem fnE100 : FnOK Try.prog 100 Try.f100 [] := ⟨Try.func100, fun vs w => Try.call100 vs w, fun _ _ => loopsOK_nil⟩
theorem fnE101 : FnOK Try.prog 101 Try.f101 [] := ⟨Try.func101, fun vs w => Try.call101 vs w, fun _ _ => loopsOK_nil⟩
theorem fnE102 : FnOK Try.prog 102 Try.f102 [] := ⟨Try.func102, fun vs w => Try.call102 vs w, fun _ _ => loopsOK_nil⟩
theorem fnE103 : FnOK Try.prog 103 Try.f103 [] := ⟨Try.func103, fun vs w => Try.call103 vs w, fun _ _ => loopsOK_nil⟩
theorem fnE104 : FnOK Try.prog 104 Try.f104 [] := ⟨Try.func104, fun vs w => Try.call104 vs w, fun _ _ => loopsOK_nil⟩
theorem fnE105 : FnOK Try.prog 105 Try.f105 [] := ⟨Try.func105, fun vs w => Try.call105 vs w, fun _ _ => loopsOK_nil⟩
theorem fnE106 : FnOK Try.prog 106 Try.f106 [] := ⟨Try.func106, fun vs w => Try.call106 vs w, fun _ _ => loopsOK_nil⟩
theorem fnE107 : FnOK Try.prog 107 Try.f107 [] := ⟨Try.func107, fun vs w => Try.call107 vs w, fun _ _ => loopsOK_nil⟩
theorem fnsOK : FnsOK Try.prog fns := (fnsOK_cons fnE3 (fnsOK_cons fnE4 (fnsOK_cons fnE5 (fnsOK_cons fnE6 (fnsOK_cons fnE7 (fnsOK_cons fnE8 (fnsOK_cons fnE9 (fnsOK_cons fnE10 (fnsOK_cons fnE11 (fnsOK_cons fnE12 (fnsOK_cons fnE13 (fnsOK_cons fnE14 (fnsOK_cons fnE15 (fnsOK_cons fnE16 (fnsOK_cons fnE17 (fnsOK_cons fnE18 (fnsOK_cons fnE19 (fnsOK_cons fnE20 (fnsOK_cons fnE21 (fnsOK_cons fnE22 (fnsOK_cons fnE23 (fnsOK_cons fnE24 (fnsOK_cons fnE25 (fnsOK_cons fnE26 (fnsOK_cons fnE27 (fnsOK_cons fnE28 (fnsOK_cons fnE29 (fnsOK_cons fnE30 (fnsOK_cons fnE31 (fnsOK_cons fnE32 (fnsOK_cons fnE33 (fnsOK_cons fnE34 (fnsOK_cons fnE35 (fnsOK_cons fnE36 (fnsOK_cons fnE37 (fnsOK_cons fnE38 (fnsOK_cons fnE39 (fnsOK_cons fnE40 (fnsOK_cons fnE41 (fnsOK_cons fnE42 (fnsOK_cons fnE43 (fnsOK_cons fnE44 (fnsOK_cons fnE46 (fnsOK_cons fnE47 (fnsOK_cons fnE48 (fnsOK_cons fnE49 (fnsOK_cons fnE50 (fnsOK_cons fnE51 (fnsOK_cons fnE52 (fnsOK_cons fnE53 (fnsOK_cons fnE54 (fnsOK_cons fnE55 (fnsOK_cons fnE56 (fnsOK_cons fnE57 (fnsOK_cons fnE58 (fnsOK_cons fnE59 (fnsOK_cons fnE60 (fnsOK_cons fnE61 (fnsOK_cons fnE62 (fnsOK_cons fnE63 (fnsOK_cons fnE64 (fnsOK_cons fnE65 (fnsOK_cons fnE66 (fnsOK_cons fnE67 (fnsOK_cons fnE68 (fnsOK_cons fnE69 (fnsOK_cons fnE70 (fnsOK_cons fnE71 (fnsOK_cons fnE72 (fnsOK_cons fnE73 (fnsOK_cons fnE74 (fnsOK_cons fnE75 (fnsOK_cons fnE76 (fnsOK_cons fnE77 (fnsOK_cons fnE78 (fnsOK_cons fnE79 (fnsOK_cons fnE80 (fnsOK_cons fnE81 (fnsOK_cons fnE82 (fnsOK_cons fnE83 (fnsOK_cons fnE84 (fnsOK_cons fnE85 (fnsOK_cons fnE86 (fnsOK_cons fnE87 (fnsOK_cons fnE88 (fnsOK_cons fnE89 (fnsOK_cons fnE90 (fnsOK_cons fnE91 (fnsOK_cons fnE92 (fnsOK_cons fnE93 (fnsOK_cons fnE94 (fnsOK_cons fnE95 (fnsOK_cons fnE96 (fnsOK_cons fnE97 (fnsOK_cons fnE98 (fnsOK_cons fnE99 (fnsOK_cons fnE100 (fnsOK_cons fnE101 (fnsOK_cons fnE102 (fnsOK_cons fnE103 (fnsOK_cons fnE104 (fnsOK_cons fnE105 (fnsOK_cons fnE106 (fnsOK_cons fnE107 fnsOK_nil))))))))))))))))))))))))))))))))))))))))))))))))))))))))))))))))))))))))))))))))))))))))))))))))))))))))
theorem mixed : Try.prog.follows .mixedOrders = true := Try.checked.mixed
theorem mkCall {fs : FS} {specs : Specs} {fns' : Fns} (hFS : FSOK Try.prog fs) (hSp : SpecsOK Try.prog specs) (hF : FnsOK Try.prog fns') : CallOK Try.prog (acall tab fs specs fns' 100 20) := acall_ok tabOK hFS hSp hF (fun hC C => draw_ok tabOK hFS hC mixed C) 20
theorem mkDraw {fs : FS} {call : ACall} (hFS : FSOK Try.prog fs) (hC : CallOK Try.prog call) (C : Ctx) : DrawOK Try.prog tab fs call C := draw_ok tabOK hFS hC mixed C
end Go.Proofs.Ytmdjpohmbkodeaa.Sx
