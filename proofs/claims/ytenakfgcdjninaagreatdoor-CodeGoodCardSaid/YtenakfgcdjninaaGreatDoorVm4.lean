/- Part 4 of the walk: a calculus of conditions over the model, and contracts of the functions of the program, in their plain form. No claim stands here. -/
import Derived.Test.YtenakfgcdjninaaGreatDoorVm3
import Derived.Laws.Externs
import Derived.Laws.RangeString
import Derived.Lib.Builder
import Derived.Lib.UnsafeStr
set_option linter.unusedVariables false
set_option linter.unusedSimpArgs false
set_option linter.unusedSectionVars false
set_option linter.unnecessarySimpa false
set_option maxRecDepth 100000
set_option linter.unusedVariables false
namespace Go.Vx
open Go Go.Proofs
/-- lapidary/lapidaryref07.letter -/
def d_ref07_letter (R : Ending → World → Prop) (a0 : Value) (w : World) : Prop :=
  bI .geq .u8 a0 (Value.int IntKind.u8 97) (fun t4 w =>
  cnd t4
  (bI .leq .u8 a0 (Value.int IntKind.u8 122) (fun t7 w =>
  cnd t7
  (R (.returned (.bool true)) w)
  (bI .geq .u8 a0 (Value.int IntKind.u8 65) (fun t11 w =>
  cnd t11
  (bI .leq .u8 a0 (Value.int IntKind.u8 90) (fun t14 w =>
  R (.returned t14) w) w)
  (R (.returned (.bool false)) w)) w)) w)
  (bI .geq .u8 a0 (Value.int IntKind.u8 65) (fun t11 w =>
  cnd t11
  (bI .leq .u8 a0 (Value.int IntKind.u8 90) (fun t14 w =>
  R (.returned t14) w) w)
  (R (.returned (.bool false)) w)) w)) w
theorem e_ref07_letter (R : Ending → World → Prop) (a0 : Value) (w : World) : vcFn P tab 4000 Tryz.f126.ntmps (Tryz.f126.body.getD .skip) Tryz.f126.results.toList [a0] R w = d_ref07_letter R a0 w := by kernel_rfl
theorem t_ref07_letter (R : Ending → World → Prop) (a0 : Value) (w : World) (h : d_ref07_letter R a0 w) : Tr P F.ref07_letter [a0] w R :=
  fn_ok (fn := Tryz.f126) (c := Tryz.f126.body.getD .skip) (fuel := 4000) mixed tab_ok Tryz.func126 (by kernel_rfl) (by kernel_rfl) (Nat.le_of_ble_eq_true (by kernel_rfl)) (Eq.mpr (e_ref07_letter R a0 w) h)
/-- (*lapidary/lex.reader).name$1 -/
def d_lex_reader_name_1 (R : Ending → World → Prop) (a0 : Value) (w : World) : Prop :=
  cl P F.lex_letter [a0] (fun t4 w =>
  cnd t4
  (R (.returned (.bool true)) w)
  (cl P F.lex_digit [a0] (fun t7 w =>
  cnd t7
  (R (.returned (.bool true)) w)
  (bI .eql .u8 a0 (Value.int IntKind.u8 95) (fun t11 w =>
  R (.returned t11) w) w)) (fun ch w => R (.panicked ch) w) w)) (fun ch w => R (.panicked ch) w) w
theorem e_lex_reader_name_1 (R : Ending → World → Prop) (a0 : Value) (w : World) : vcFn P tab 4000 Tryz.f128.ntmps (Tryz.f128.body.getD .skip) Tryz.f128.results.toList [a0] R w = d_lex_reader_name_1 R a0 w := by kernel_rfl
theorem t_lex_reader_name_1 (R : Ending → World → Prop) (a0 : Value) (w : World) (h : d_lex_reader_name_1 R a0 w) : Tr P F.lex_reader_name_1 [a0] w R :=
  fn_ok (fn := Tryz.f128) (c := Tryz.f128.body.getD .skip) (fuel := 4000) mixed tab_ok Tryz.func128 (by kernel_rfl) (by kernel_rfl) (Nat.le_of_ble_eq_true (by kernel_rfl)) (Eq.mpr (e_lex_reader_name_1 R a0 w) h)
/-- strings.CutPrefix -/
def d_strings_CutPrefix (R : Ending → World → Prop) (a0 a1 : Value) (w : World) : Prop :=
  cl P F.internal_stringslite_CutPrefix [a0, a1] (fun t8 w =>
  ex t8 0 (fun t9 w =>
  ex t8 1 (fun t10 w =>
  R (.returned (.tuple #[t9, t10])) w) w) w) (fun ch w => R (.panicked ch) w) w
theorem e_strings_CutPrefix (R : Ending → World → Prop) (a0 a1 : Value) (w : World) : vcFn P tab 4000 Tryz.f129.ntmps (Tryz.f129.body.getD .skip) Tryz.f129.results.toList [a0, a1] R w = d_strings_CutPrefix R a0 a1 w := by kernel_rfl
theorem t_strings_CutPrefix (R : Ending → World → Prop) (a0 a1 : Value) (w : World) (h : d_strings_CutPrefix R a0 a1 w) : Tr P F.strings_CutPrefix [a0, a1] w R :=
  fn_ok (fn := Tryz.f129) (c := Tryz.f129.body.getD .skip) (fuel := 4000) mixed tab_ok Tryz.func129 (by kernel_rfl) (by kernel_rfl) (Nat.le_of_ble_eq_true (by kernel_rfl)) (Eq.mpr (e_strings_CutPrefix R a0 a1 w) h)
/-- lapidary/whole.Read$1 -/
def d_whole_Read_1 (R : Ending → World → Prop) (a0 : Value) (w : World) : Prop :=
  bI .lss .i32 a0 (Value.int IntKind.i32 48) (fun t4 w =>
  cnd t4
  (R (.returned (.bool true)) w)
  (bI .gtr .i32 a0 (Value.int IntKind.i32 57) (fun t7 w =>
  R (.returned t7) w) w)) w
theorem e_whole_Read_1 (R : Ending → World → Prop) (a0 : Value) (w : World) : vcFn P tab 4000 Tryz.f130.ntmps (Tryz.f130.body.getD .skip) Tryz.f130.results.toList [a0] R w = d_whole_Read_1 R a0 w := by kernel_rfl
theorem t_whole_Read_1 (R : Ending → World → Prop) (a0 : Value) (w : World) (h : d_whole_Read_1 R a0 w) : Tr P F.whole_Read_1 [a0] w R :=
  fn_ok (fn := Tryz.f130) (c := Tryz.f130.body.getD .skip) (fuel := 4000) mixed tab_ok Tryz.func130 (by kernel_rfl) (by kernel_rfl) (Nat.le_of_ble_eq_true (by kernel_rfl)) (Eq.mpr (e_whole_Read_1 R a0 w) h)
/-- strings.IndexFunc -/
def d_strings_IndexFunc (R : Ending → World → Prop) (a0 a1 : Value) (w : World) : Prop :=
  cl P F.strings_indexFunc [a0, a1, (.bool true)] (fun t7 w =>
  R (.returned t7) w) (fun ch w => R (.panicked ch) w) w
theorem e_strings_IndexFunc (R : Ending → World → Prop) (a0 a1 : Value) (w : World) : vcFn P tab 4000 Tryz.f131.ntmps (Tryz.f131.body.getD .skip) Tryz.f131.results.toList [a0, a1] R w = d_strings_IndexFunc R a0 a1 w := by kernel_rfl
theorem t_strings_IndexFunc (R : Ending → World → Prop) (a0 a1 : Value) (w : World) (h : d_strings_IndexFunc R a0 a1 w) : Tr P F.strings_IndexFunc [a0, a1] w R :=
  fn_ok (fn := Tryz.f131) (c := Tryz.f131.body.getD .skip) (fuel := 4000) mixed tab_ok Tryz.func131 (by kernel_rfl) (by kernel_rfl) (Nat.le_of_ble_eq_true (by kernel_rfl)) (Eq.mpr (e_strings_IndexFunc R a0 a1 w) h)
/-- lapidary/whole.plus -/
def d_whole_plus (R : Ending → World → Prop) (a0 a1 : Value) (w : World) : Prop :=
  jn 2 (fun x0 x1 w =>
  lnL x0 (fun t16 w =>
  bI .add .i64 t16 (Value.int IntKind.i64 1) (fun t17 w =>
  mk 211 4 [.int .u32 0] t17 t17 (fun t18 w =>
  lnL x0 (fun t20 w =>
  lp 2 [(Value.int IntKind.u64 0), (Value.int IntKind.i64 0)] (fun r2 x6 x21 w =>
  bI .lss .i64 x21 t20 (fun t22 w =>
  cnd t22
  (ia 1 x0 x21 (fun t27 w =>
  ld t27 (fun t28 w =>
  cI .u64 t28 (fun t29 w =>
  bI .add .u64 x6 t29 (fun t30 w =>
  jn 1 (fun x6 w =>
  cI .u32 x6 (fun t45 w =>
  ia 1 t18 x21 (fun t46 w =>
  st 1 t46 t45 (fun w =>
  bH .shr .u64 x6 (Value.int IntKind.u64 32) (fun t48 w =>
  bI .add .i64 x21 (Value.int IntKind.i64 1) (fun t49 w =>
  sm [(x0, x0), (x1, x1), ((Value.slice none 0 0), (Value.slice none 0 0)), (t18, t18), (t20, t20)] [] [] (r2 [t48, t49] w)) w) w) w) w) w) (fun k3 =>
  lnL x1 (fun t33 w =>
  bI .lss .i64 x21 t33 (fun t34 w =>
  cnd t34
  (ia 1 x1 x21 (fun t38 w =>
  ld t38 (fun t39 w =>
  cI .u64 t39 (fun t40 w =>
  bI .add .u64 t30 t40 (fun t41 w =>
  sm [(x0, x0), (x1, x1), ((Value.slice none 0 0), (Value.slice none 0 0)), (t18, t18), (x21, x21), (t20, t20), (x21, x21)] [] [] (k3 t41 w)) w) w) w) w)
  (sm [(x0, x0), (x1, x1), ((Value.slice none 0 0), (Value.slice none 0 0)), (t18, t18), (x21, x21), (t20, t20), (x21, x21)] [] [] (k3 t30 w))) w) w)) w) w) w) w)
  (lnL x0 (fun t52 w =>
  cI .u32 x6 (fun t54 w =>
  ia 1 t18 t52 (fun t55 w =>
  st 1 t55 t54 (fun w =>
  cl P F.whole_words_trim [t18] (fun t57 w =>
  R (.returned t57) w) (fun ch w => R (.panicked ch) w) w) w) w) w) w)) w) w) w) w) w) w) (fun k1 =>
  lnL a0 (fun t9 w =>
  lnL a1 (fun t11 w =>
  bI .lss .i64 t9 t11 (fun t12 w =>
  cnd t12
  (sm [((Value.slice none 0 0), (Value.slice none 0 0))] [] [] (k1 a1 a0 w))
  (sm [((Value.slice none 0 0), (Value.slice none 0 0))] [] [] (k1 a0 a1 w))) w) w) w)
theorem e_whole_plus (R : Ending → World → Prop) (a0 a1 : Value) (w : World) : vcFn P tab 4000 Tryz.f132.ntmps (Tryz.f132.body.getD .skip) Tryz.f132.results.toList [a0, a1] R w = d_whole_plus R a0 a1 w := by kernel_rfl
theorem t_whole_plus (R : Ending → World → Prop) (a0 a1 : Value) (w : World) (h : d_whole_plus R a0 a1 w) : Tr P F.whole_plus [a0, a1] w R :=
  fn_ok (fn := Tryz.f132) (c := Tryz.f132.body.getD .skip) (fuel := 4000) mixed tab_ok Tryz.func132 (by kernel_rfl) (by kernel_rfl) (Nat.le_of_ble_eq_true (by kernel_rfl)) (Eq.mpr (e_whole_plus R a0 a1 w) h)
/-- lapidary/whole.times -/
def d_whole_times (R : Ending → World → Prop) (a0 a1 : Value) (w : World) : Prop :=
  lnL a0 (fun t12 w =>
  lnL a1 (fun t14 w =>
  bI .add .i64 t12 t14 (fun t15 w =>
  mk 211 4 [.int .u32 0] t15 t15 (fun t16 w =>
  lnL a0 (fun t18 w =>
  lp 1 [(Value.int IntKind.i64 0)] (fun r1 x19 w =>
  bI .lss .i64 x19 t18 (fun t20 w =>
  cnd t20
  (ia 1 a0 x19 (fun t22 w =>
  ld t22 (fun t23 w =>
  lnL a1 (fun t25 w =>
  lp 2 [(Value.int IntKind.u64 0), (Value.int IntKind.i64 0)] (fun r2 x8 x26 w =>
  bI .lss .i64 x26 t25 (fun t27 w =>
  cnd t27
  (ia 1 a1 x26 (fun t29 w =>
  ld t29 (fun t30 w =>
  cI .u64 t23 (fun t33 w =>
  cI .u64 t30 (fun t35 w =>
  bI .mul .u64 t33 t35 (fun t36 w =>
  bI .add .i64 x19 x26 (fun t40 w =>
  ia 1 t16 t40 (fun t41 w =>
  ld t41 (fun t42 w =>
  cI .u64 t42 (fun t43 w =>
  bI .add .u64 t36 t43 (fun t44 w =>
  bI .add .u64 x8 t44 (fun t45 w =>
  bI .add .i64 x19 x26 (fun t49 w =>
  cI .u32 t45 (fun t51 w =>
  ia 1 t16 t49 (fun t52 w =>
  st 1 t52 t51 (fun w =>
  bH .shr .u64 t45 (Value.int IntKind.u64 32) (fun t54 w =>
  bI .add .i64 x26 (Value.int IntKind.i64 1) (fun t55 w =>
  sm [(a1, a1), ((Value.slice none 0 0), (Value.slice none 0 0)), (t16, t16), (x19, x19), (t23, t23), (a0, a0), (t18, t18), (x19, x19), (a1, a1), (t25, t25)] [] [] (r2 [t54, t55] w)) w) w) w) w) w) w) w) w) w) w) w) w) w) w) w) w) w)
  (lnL a1 (fun t59 w =>
  bI .add .i64 x19 t59 (fun t60 w =>
  cI .u32 x8 (fun t62 w =>
  ia 1 t16 t60 (fun t63 w =>
  st 1 t63 t62 (fun w =>
  bI .add .i64 x19 (Value.int IntKind.i64 1) (fun t64 w =>
  sm [(a1, a1), ((Value.slice none 0 0), (Value.slice none 0 0)), (t16, t16), (a0, a0), (t18, t18)] [] [] (r1 [t64] w)) w) w) w) w) w) w)) w) w) w) w) w)
  (cl P F.whole_words_trim [t16] (fun t66 w =>
  R (.returned t66) w) (fun ch w => R (.panicked ch) w) w)) w) w) w) w) w) w) w
theorem e_whole_times (R : Ending → World → Prop) (a0 a1 : Value) (w : World) : vcFn P tab 4000 Tryz.f133.ntmps (Tryz.f133.body.getD .skip) Tryz.f133.results.toList [a0, a1] R w = d_whole_times R a0 a1 w := by kernel_rfl
theorem t_whole_times (R : Ending → World → Prop) (a0 a1 : Value) (w : World) (h : d_whole_times R a0 a1 w) : Tr P F.whole_times [a0, a1] w R :=
  fn_ok (fn := Tryz.f133) (c := Tryz.f133.body.getD .skip) (fuel := 4000) mixed tab_ok Tryz.func133 (by kernel_rfl) (by kernel_rfl) (Nat.le_of_ble_eq_true (by kernel_rfl)) (Eq.mpr (e_whole_times R a0 a1 w) h)
/-- (lapidary/whole.words).trim -/
def d_whole_words_trim (R : Ending → World → Prop) (a0 : Value) (w : World) : Prop :=
  lp 1 [a0] (fun r1 x0 w =>
  jn 7 (fun x7 x8 x9 x10 x11 x12 x13 w =>
  lnL x0 (fun t17 w =>
  bI .sub .i64 t17 (Value.int IntKind.i64 1) (fun t18 w =>
  slL 1 x0 none (some t18) none (fun t19 w =>
  sm [((Value.slice none 0 0), (Value.slice none 0 0))] [] [] (r1 [t19] w)) w) w) w) (fun k2 =>
  lnL x0 (fun t4 w =>
  bI .gtr .i64 t4 (Value.int IntKind.i64 0) (fun t5 w =>
  cnd t5
  (lnL x0 (fun t9 w =>
  bI .sub .i64 t9 (Value.int IntKind.i64 1) (fun t10 w =>
  ia 1 x0 t10 (fun t11 w =>
  ld t11 (fun t12 w =>
  bI .eql .u32 t12 (Value.int IntKind.u32 0) (fun t13 w =>
  cnd t13
  (sm [(x0, x0), ((Value.slice none 0 0), (Value.slice none 0 0))] [] [] (k2 x0 x0 t9 t10 t11 t12 t13 w))
  (R (.returned x0) w)) w) w) w) w) w)
  (R (.returned x0) w)) w) w)) w
theorem e_whole_words_trim (R : Ending → World → Prop) (a0 : Value) (w : World) : vcFn P tab 4000 Tryz.f134.ntmps (Tryz.f134.body.getD .skip) Tryz.f134.results.toList [a0] R w = d_whole_words_trim R a0 w := by kernel_rfl
theorem t_whole_words_trim (R : Ending → World → Prop) (a0 : Value) (w : World) (h : d_whole_words_trim R a0 w) : Tr P F.whole_words_trim [a0] w R :=
  fn_ok (fn := Tryz.f134) (c := Tryz.f134.body.getD .skip) (fuel := 4000) mixed tab_ok Tryz.func134 (by kernel_rfl) (by kernel_rfl) (Nat.le_of_ble_eq_true (by kernel_rfl)) (Eq.mpr (e_whole_words_trim R a0 w) h)
/-- lapidary/whole.fits -/
def d_whole_fits (R : Ending → World → Prop) (a0 a1 : Value) (w : World) : Prop :=
  al [.bool false, .slice none 0 0] 178 (fun t4 w =>
  cl P F.whole_made [a0, a1] (fun t9 w =>
  al [.bool false, .slice none 0 0] 178 (fun t6 w =>
  st 2 t6 t9 (fun w =>
  fa 1 t6 (fun t10 w =>
  ld t10 (fun t11 w =>
  lnL t11 (fun t12 w =>
  bI .gtr .i64 t12 (Value.int IntKind.i64 128) (fun t13 w =>
  cnd t13
  (bd [.bool false, .slice none 0 0] [] (fun t14 w =>
  st 2 t4 t14 (fun w =>
  ldn 2 t4 (fun r0 w =>
  R (.returned (.tuple #[r0, (Value.int IntKind.i64 24)])) w) w) w) w)
  (ldn 2 t6 (fun t15 w =>
  st 2 t4 t15 (fun w =>
  ldn 2 t4 (fun r0 w =>
  R (.returned (.tuple #[r0, (Value.int IntKind.i64 0)])) w) w) w) w)) w) w) w) w) w) w) (fun ch w => R (.panicked ch) w) w) w
theorem e_whole_fits (R : Ending → World → Prop) (a0 a1 : Value) (w : World) : vcFn P tab 4000 Tryz.f135.ntmps (Tryz.f135.body.getD .skip) Tryz.f135.results.toList [a0, a1] R w = d_whole_fits R a0 a1 w := by kernel_rfl
theorem t_whole_fits (R : Ending → World → Prop) (a0 a1 : Value) (w : World) (h : d_whole_fits R a0 a1 w) : Tr P F.whole_fits [a0, a1] w R :=
  fn_ok (fn := Tryz.f135) (c := Tryz.f135.body.getD .skip) (fuel := 4000) mixed tab_ok Tryz.func135 (by kernel_rfl) (by kernel_rfl) (Nat.le_of_ble_eq_true (by kernel_rfl)) (Eq.mpr (e_whole_fits R a0 a1 w) h)
/-- (*strings.Builder).Len -/
def d_strings_Builder_Len (R : Ending → World → Prop) (a0 : Value) (w : World) : Prop :=
  nc a0 (fun t4 w =>
  fa 1 t4 (fun t5 w =>
  ld t5 (fun t6 w =>
  lnL t6 (fun t7 w =>
  R (.returned t7) w) w) w) w) w
theorem e_strings_Builder_Len (R : Ending → World → Prop) (a0 : Value) (w : World) : vcFn P tab 4000 Tryz.f136.ntmps (Tryz.f136.body.getD .skip) Tryz.f136.results.toList [a0] R w = d_strings_Builder_Len R a0 w := by kernel_rfl
theorem t_strings_Builder_Len (R : Ending → World → Prop) (a0 : Value) (w : World) (h : d_strings_Builder_Len R a0 w) : Tr P F.strings_Builder_Len [a0] w R :=
  fn_ok (fn := Tryz.f136) (c := Tryz.f136.body.getD .skip) (fuel := 4000) mixed tab_ok Tryz.func136 (by kernel_rfl) (by kernel_rfl) (Nat.le_of_ble_eq_true (by kernel_rfl)) (Eq.mpr (e_strings_Builder_Len R a0 w) h)
/-- (*strings.Builder).WriteByte -/
def d_strings_Builder_WriteByte (R : Ending → World → Prop) (a0 a1 : Value) (w : World) : Prop :=
  cl P F.strings_Builder_copyCheck [a0] (fun t6 w =>
  nc a0 (fun t9 w =>
  fa 1 t9 (fun t10 w =>
  ld t10 (fun t11 w =>
  bs 5 [.int .u8 0] 1 [(0, 1, a1)] (fun t13 w =>
  ap 5 1 1 [.int .u8 0] t11 t13 (fun t14 w =>
  nc a0 (fun t15 w =>
  fa 1 t15 (fun t16 w =>
  st 1 t16 t14 (fun w =>
  R (.returned Value.nilIface) w) w) w) w) w) w) w) w) w) (fun ch w => R (.panicked ch) w) w
theorem e_strings_Builder_WriteByte (R : Ending → World → Prop) (a0 a1 : Value) (w : World) : vcFn P tab 4000 Tryz.f137.ntmps (Tryz.f137.body.getD .skip) Tryz.f137.results.toList [a0, a1] R w = d_strings_Builder_WriteByte R a0 a1 w := by kernel_rfl
theorem t_strings_Builder_WriteByte (R : Ending → World → Prop) (a0 a1 : Value) (w : World) (h : d_strings_Builder_WriteByte R a0 a1 w) : Tr P F.strings_Builder_WriteByte [a0, a1] w R :=
  fn_ok (fn := Tryz.f137) (c := Tryz.f137.body.getD .skip) (fuel := 4000) mixed tab_ok Tryz.func137 (by kernel_rfl) (by kernel_rfl) (Nat.le_of_ble_eq_true (by kernel_rfl)) (Eq.mpr (e_strings_Builder_WriteByte R a0 a1 w) h)
/-- (*lapidary/lex.reader).sign$1 -/
def d_lex_reader_sign_1 (R : Ending → World → Prop) (a0 : Value) (w : World) : Prop :=
  cl P F.lex_place [a0, (Value.string { data := #[43, 45, 42, 47, 92, 60, 62, 61, 126, 44, 64, 37, 38, 63] })] (fun t4 w =>
  bI .geq .i64 t4 (Value.int IntKind.i64 0) (fun t5 w =>
  R (.returned t5) w) w) (fun ch w => R (.panicked ch) w) w
theorem e_lex_reader_sign_1 (R : Ending → World → Prop) (a0 : Value) (w : World) : vcFn P tab 4000 Tryz.f138.ntmps (Tryz.f138.body.getD .skip) Tryz.f138.results.toList [a0] R w = d_lex_reader_sign_1 R a0 w := by kernel_rfl
theorem t_lex_reader_sign_1 (R : Ending → World → Prop) (a0 : Value) (w : World) (h : d_lex_reader_sign_1 R a0 w) : Tr P F.lex_reader_sign_1 [a0] w R :=
  fn_ok (fn := Tryz.f138) (c := Tryz.f138.body.getD .skip) (fuel := 4000) mixed tab_ok Tryz.func138 (by kernel_rfl) (by kernel_rfl) (Nat.le_of_ble_eq_true (by kernel_rfl)) (Eq.mpr (e_lex_reader_sign_1 R a0 w) h)
/-- (*lapidary/tree.parser).within -/
def d_tree_parser_within (R : Ending → World → Prop) (a0 a1 : Value) (w : World) : Prop :=
  jn 0 (fun w =>
  nc a0 (fun t12 w =>
  fa 1 t12 (fun t13 w =>
  ld t13 (fun t14 w =>
  bI .add .i64 t14 (Value.int IntKind.i64 1) (fun t15 w =>
  nc a0 (fun t16 w =>
  fa 1 t16 (fun t17 w =>
  st 1 t17 t15 (fun w =>
  cl P F.tree_parser_take [a0] (fun t19 w =>
  clv P a1 [] (fun t21 w =>
  nc a0 (fun t23 w =>
  fa 1 t23 (fun t24 w =>
  ld t24 (fun t25 w =>
  bI .sub .i64 t25 (Value.int IntKind.i64 1) (fun t26 w =>
  nc a0 (fun t27 w =>
  fa 1 t27 (fun t28 w =>
  st 1 t28 t26 (fun w =>
  R (.returned (.tuple #[])) w) w) w) w) w) w) w) w) (fun ch w => R (.panicked ch) w) w) (fun ch w => R (.panicked ch) w) w) w) w) w) w) w) w) w) (fun k1 =>
  nc a0 (fun t5 w =>
  fa 1 t5 (fun t6 w =>
  ld t6 (fun t7 w =>
  bI .eql .i64 t7 (Value.int IntKind.i64 40) (fun t8 w =>
  cnd t8
  (cl P F.tree_parser_bad [a0, (Value.int IntKind.i64 3)] (fun t10 w =>
  sm [(a0, a0), (a1, a1)] [] [] (k1 w)) (fun ch w => R (.panicked ch) w) w)
  (sm [(a0, a0), (a1, a1)] [] [] (k1 w))) w) w) w) w)
theorem e_tree_parser_within (R : Ending → World → Prop) (a0 a1 : Value) (w : World) : vcFn P tab 4000 Tryz.f139.ntmps (Tryz.f139.body.getD .skip) Tryz.f139.results.toList [a0, a1] R w = d_tree_parser_within R a0 a1 w := by kernel_rfl
theorem t_tree_parser_within (R : Ending → World → Prop) (a0 a1 : Value) (w : World) (h : d_tree_parser_within R a0 a1 w) : Tr P F.tree_parser_within [a0, a1] w R :=
  fn_ok (fn := Tryz.f139) (c := Tryz.f139.body.getD .skip) (fuel := 4000) mixed tab_ok Tryz.func139 (by kernel_rfl) (by kernel_rfl) (Nat.le_of_ble_eq_true (by kernel_rfl)) (Eq.mpr (e_tree_parser_within R a0 a1 w) h)
/-- (*lapidary/tree.parser).expression$1 -/
def d_tree_parser_expression_1 (R : Ending → World → Prop) (a0 a1 : Value) (w : World) : Prop :=
  ld a0 (fun t2 w =>
  cl P F.tree_parser_expression [t2] (fun t3 w =>
  bs 50 [.int .i64 0, .string ⟨#[]⟩, .int .i64 0, .int .i64 0, .slice none 0 0, .slice none 0 0] 1 [(0, 6, t3)] (fun t4 w =>
  fa 5 a1 (fun t5 w =>
  st 1 t5 t4 (fun w =>
  R (.returned (.tuple #[])) w) w) w) w) (fun ch w => R (.panicked ch) w) w) w
theorem e_tree_parser_expression_1 (R : Ending → World → Prop) (a0 a1 : Value) (w : World) : vcFn P tab 4000 Tryz.f140.ntmps (Tryz.f140.body.getD .skip) Tryz.f140.results.toList [a0, a1] R w = d_tree_parser_expression_1 R a0 a1 w := by kernel_rfl
theorem t_tree_parser_expression_1 (R : Ending → World → Prop) (a0 a1 : Value) (w : World) (h : d_tree_parser_expression_1 R a0 a1 w) : Tr P F.tree_parser_expression_1 [a0, a1] w R :=
  fn_ok (fn := Tryz.f140) (c := Tryz.f140.body.getD .skip) (fuel := 4000) mixed tab_ok Tryz.func140 (by kernel_rfl) (by kernel_rfl) (Nat.le_of_ble_eq_true (by kernel_rfl)) (Eq.mpr (e_tree_parser_expression_1 R a0 a1 w) h)
/-- (*lapidary/tree.parser).cascade -/
def d_tree_parser_cascade (R : Ending → World → Prop) (a0 : Value) (w : World) : Prop :=
  al [.int .i64 0, .string ⟨#[]⟩, .int .i64 0, .int .i64 0, .slice none 0 0, .slice none 0 0] 50 (fun t2 w =>
  cl P F.tree_parser_keyed [a0] (fun t9 w =>
  ex t9 0 (fun t10 w =>
  ex t9 1 (fun t11 w =>
  al [.int .i64 0, .string ⟨#[]⟩, .int .i64 0, .int .i64 0, .slice none 0 0, .slice none 0 0] 50 (fun t3 w =>
  st 6 t3 t10 (fun w =>
  cl P F.tree_parser_kind [a0] (fun t13 w =>
  bI .neq .i64 t13 (Value.int IntKind.i64 15) (fun t14 w =>
  cnd t14
  (ldn 6 t3 (fun t15 w =>
  st 6 t2 t15 (fun w =>
  ldn 6 t2 (fun r0 w =>
  R (.returned r0) w) w) w) w)
  (jn 0 (fun w =>
  drw w (fun w =>
  fa 1 t3 (fun t25 w =>
  ld t25 (fun t26 w =>
  fa 2 t3 (fun t27 w =>
  ld t27 (fun t28 w =>
  fa 5 t3 (fun t29 w =>
  ld t29 (fun t30 w =>
  slL 6 t30 (some (Value.int IntKind.i64 1)) none none (fun t31 w =>
  bd [.int .i64 0, .string ⟨#[]⟩, .int .i64 0, .int .i64 0, .slice none 0 0, .slice none 0 0] [(0, 1, (Value.int IntKind.i64 9)), (1, 1, t26), (2, 1, t28), (5, 1, t31)] (fun t32 w =>
  al [.int .i64 0, .string ⟨#[]⟩, .int .i64 0, .int .i64 0, .slice none 0 0, .slice none 0 0] 50 (fun t5 w =>
  rk false t29 t30
  (rk false t27 t28
  (rk false t25 t26
  (st 6 t5 t32 (fun w =>
  drw w (fun w =>
  (fa 2 t3 (fun t33 w =>
  ld t33 (fun t34 w =>
  fa 5 t3 (fun t35 w =>
  ld t35 (fun t36 w =>
  ia 6 t36 (Value.int IntKind.i64 0) (fun t37 w =>
  ldn 6 t37 (fun t38 w =>
  ldn 6 t5 (fun t39 w =>
  bs 50 [.int .i64 0, .string ⟨#[]⟩, .int .i64 0, .int .i64 0, .slice none 0 0, .slice none 0 0] 2 [(0, 6, t38), (6, 6, t39)] (fun t40 w =>
  rk false t33 t34
  (bd [.int .i64 0, .string ⟨#[]⟩, .int .i64 0, .int .i64 0, .slice none 0 0, .slice none 0 0] [(0, 1, (Value.int IntKind.i64 8)), (2, 1, t34), (5, 1, t40)] (fun t41 w =>
  al [.int .i64 0, .string ⟨#[]⟩, .int .i64 0, .int .i64 0, .slice none 0 0, .slice none 0 0] 50 (fun t6 w =>
  rk false t33 t34
  (st 6 t6 t41 (fun w =>
  lp 0 [] (fun r2 w =>
  cl P F.tree_parser_kind [a0] (fun t43 w =>
  bI .eql .i64 t43 (Value.int IntKind.i64 15) (fun t44 w =>
  cnd t44
  (cl P F.tree_parser_take [a0] (fun t46 w =>
  drw w (fun w =>
  fa 5 t6 (fun t47 w =>
  ld t47 (fun t48 w =>
  cl P F.tree_parser_message [a0] (fun t50 w =>
  rk false t47 t48
  (bs 50 [.int .i64 0, .string ⟨#[]⟩, .int .i64 0, .int .i64 0, .slice none 0 0, .slice none 0 0] 1 [(0, 6, t50)] (fun t51 w =>
  rk false t47 t48
  (ap 50 6 88 [.int .i64 0, .string ⟨#[]⟩, .int .i64 0, .int .i64 0, .slice none 0 0, .slice none 0 0] t48 t51 (fun t52 w =>
  fa 5 t6 (fun t53 w =>
  st 1 t53 t52 (fun w =>
  sm [(a0, a0), (t2, t2), (t6, t6)] [] [] (r2 [] w)) w) w) w) w) w) w) (fun ch w => R (.panicked ch) w) w) w) w)) (fun ch w => R (.panicked ch) w) w)
  (ldn 6 t6 (fun t54 w =>
  st 6 t2 t54 (fun w =>
  ldn 6 t2 (fun r0 w =>
  R (.returned r0) w) w) w) w)) w) (fun ch w => R (.panicked ch) w) w) w) w) w) w) w) w) w) w) w) w) w) w) w) w) ∧
  (fa 2 t3 (fun t33 w =>
  ld t33 (fun t34 w =>
  fa 5 t3 (fun t35 w =>
  ld t35 (fun t36 w =>
  ia 6 t36 (Value.int IntKind.i64 0) (fun t37 w =>
  ldn 6 t37 (fun t38 w =>
  ldn 6 t5 (fun t39 w =>
  al [.int .i64 0, .string ⟨#[]⟩, .int .i64 0, .int .i64 0, .slice none 0 0, .slice none 0 0] 50 (fun t6 w =>
  rk true t5 t39
  (rk true t37 t38
  (rk false t35 t36
  (rk false t33 t34
  (bs 50 [.int .i64 0, .string ⟨#[]⟩, .int .i64 0, .int .i64 0, .slice none 0 0, .slice none 0 0] 2 [(0, 6, t38), (6, 6, t39)] (fun t40 w =>
  rk false t33 t34
  (bd [.int .i64 0, .string ⟨#[]⟩, .int .i64 0, .int .i64 0, .slice none 0 0, .slice none 0 0] [(0, 1, (Value.int IntKind.i64 8)), (2, 1, t34), (5, 1, t40)] (fun t41 w =>
  st 6 t6 t41 (fun w =>
  lp 0 [] (fun r3 w =>
  cl P F.tree_parser_kind [a0] (fun t43 w =>
  bI .eql .i64 t43 (Value.int IntKind.i64 15) (fun t44 w =>
  cnd t44
  (cl P F.tree_parser_take [a0] (fun t46 w =>
  drw w (fun w =>
  fa 5 t6 (fun t47 w =>
  ld t47 (fun t48 w =>
  cl P F.tree_parser_message [a0] (fun t50 w =>
  rk false t47 t48
  (bs 50 [.int .i64 0, .string ⟨#[]⟩, .int .i64 0, .int .i64 0, .slice none 0 0, .slice none 0 0] 1 [(0, 6, t50)] (fun t51 w =>
  rk false t47 t48
  (ap 50 6 88 [.int .i64 0, .string ⟨#[]⟩, .int .i64 0, .int .i64 0, .slice none 0 0, .slice none 0 0] t48 t51 (fun t52 w =>
  fa 5 t6 (fun t53 w =>
  st 1 t53 t52 (fun w =>
  sm [(a0, a0), (t2, t2), (t6, t6)] [] [] (r3 [] w)) w) w) w) w) w) w) (fun ch w => R (.panicked ch) w) w) w) w)) (fun ch w => R (.panicked ch) w) w)
  (ldn 6 t6 (fun t54 w =>
  st 6 t2 t54 (fun w =>
  ldn 6 t2 (fun r0 w =>
  R (.returned r0) w) w) w) w)) w) (fun ch w => R (.panicked ch) w) w) w) w) w) w) w) w) w) w) w) w) w) w) w) w) w) w) w))) w) w) w) w) w) w) w) w) w) w) w) w) w)) (fun k1 =>
  fa 0 t3 (fun t16 w =>
  ld t16 (fun t17 w =>
  bI .neq .i64 t17 (Value.int IntKind.i64 7) (fun t18 w =>
  cnd t18
  (cl P F.tree_parser_bad [a0, (Value.int IntKind.i64 20)] (fun t24 w =>
  sm [(a0, a0), (t2, t2), (t3, t3)] [] [] (k1 w)) (fun ch w => R (.panicked ch) w) w)
  (uN t11 (fun t21 w =>
  cnd t21
  (cl P F.tree_parser_bad [a0, (Value.int IntKind.i64 20)] (fun t24 w =>
  sm [(a0, a0), (t2, t2), (t3, t3)] [] [] (k1 w)) (fun ch w => R (.panicked ch) w) w)
  (sm [(a0, a0), (t2, t2), (t3, t3)] [] [] (k1 w))) w)) w) w) w))) w) (fun ch w => R (.panicked ch) w) w) w) w) w) w) (fun ch w => R (.panicked ch) w) w) w
theorem e_tree_parser_cascade (R : Ending → World → Prop) (a0 : Value) (w : World) : vcFn P tab 4000 Tryz.f141.ntmps (Tryz.f141.body.getD .skip) Tryz.f141.results.toList [a0] R w = d_tree_parser_cascade R a0 w := by kernel_rfl
theorem t_tree_parser_cascade (R : Ending → World → Prop) (a0 : Value) (w : World) (h : d_tree_parser_cascade R a0 w) : Tr P F.tree_parser_cascade [a0] w R :=
  fn_ok (fn := Tryz.f141) (c := Tryz.f141.body.getD .skip) (fuel := 4000) mixed tab_ok Tryz.func141 (by kernel_rfl) (by kernel_rfl) (Nat.le_of_ble_eq_true (by kernel_rfl)) (Eq.mpr (e_tree_parser_cascade R a0 w) h)
/-- (*strings.Builder).WriteString -/
def d_strings_Builder_WriteString (R : Ending → World → Prop) (a0 a1 : Value) (w : World) : Prop :=
  cl P F.strings_Builder_copyCheck [a0] (fun t7 w =>
  nc a0 (fun t10 w =>
  fa 1 t10 (fun t11 w =>
  ld t11 (fun t12 w =>
  ap 5 1 1 [.int .u8 0] t12 a1 (fun t14 w =>
  nc a0 (fun t15 w =>
  fa 1 t15 (fun t16 w =>
  st 1 t16 t14 (fun w =>
  lnS a1 (fun t18 w =>
  R (.returned (.tuple #[t18, Value.nilIface])) w) w) w) w) w) w) w) w) w) (fun ch w => R (.panicked ch) w) w
theorem e_strings_Builder_WriteString (R : Ending → World → Prop) (a0 a1 : Value) (w : World) : vcFn P tab 4000 Tryz.f142.ntmps (Tryz.f142.body.getD .skip) Tryz.f142.results.toList [a0, a1] R w = d_strings_Builder_WriteString R a0 a1 w := by kernel_rfl
theorem t_strings_Builder_WriteString (R : Ending → World → Prop) (a0 a1 : Value) (w : World) (h : d_strings_Builder_WriteString R a0 a1 w) : Tr P F.strings_Builder_WriteString [a0, a1] w R :=
  fn_ok (fn := Tryz.f142) (c := Tryz.f142.body.getD .skip) (fuel := 4000) mixed tab_ok Tryz.func142 (by kernel_rfl) (by kernel_rfl) (Nat.le_of_ble_eq_true (by kernel_rfl)) (Eq.mpr (e_strings_Builder_WriteString R a0 a1 w) h)
/-- lapidary/lex.Quote -/
def d_lex_Quote (R : Ending → World → Prop) (a0 : Value) (w : World) : Prop :=
  cl P F.strings_ReplaceAll [a0, (Value.string { data := #[39] }), (Value.string { data := #[39, 39] })] (fun t4 w =>
  bS .add (Value.string { data := #[39] }) t4 (fun t5 w =>
  bS .add t5 (Value.string { data := #[39] }) (fun t6 w =>
  R (.returned t6) w) w) w) (fun ch w => R (.panicked ch) w) w
theorem e_lex_Quote (R : Ending → World → Prop) (a0 : Value) (w : World) : vcFn P tab 4000 Tryz.f143.ntmps (Tryz.f143.body.getD .skip) Tryz.f143.results.toList [a0] R w = d_lex_Quote R a0 w := by kernel_rfl
theorem t_lex_Quote (R : Ending → World → Prop) (a0 : Value) (w : World) (h : d_lex_Quote R a0 w) : Tr P F.lex_Quote [a0] w R :=
  fn_ok (fn := Tryz.f143) (c := Tryz.f143.body.getD .skip) (fuel := 4000) mixed tab_ok Tryz.func143 (by kernel_rfl) (by kernel_rfl) (Nat.le_of_ble_eq_true (by kernel_rfl)) (Eq.mpr (e_lex_Quote R a0 w) h)
/-- lapidary/lex.PlainSymbol -/
def d_lex_PlainSymbol (R : Ending → World → Prop) (a0 : Value) (w : World) : Prop :=
  bd [.string ⟨#[]⟩, .int .i64 0] [(0, 1, a0)] (fun t7 w =>
  al t7.cells.toList 132 (fun t8 w =>
  jn 1 (fun x2 w =>
  cl P F.lex_reader_symbol [t8] (fun t18 w =>
  ex t18 0 (fun t19 w =>
  ex t18 1 (fun t20 w =>
  cnd t20
  (bS .eql t19 a0 (fun t25 w =>
  R (.returned t25) w) w)
  (R (.returned (.bool false)) w)) w) w) (fun ch w => R (.panicked ch) w) w) (fun k1 =>
  bS .eql a0 (Value.string { data := #[] }) (fun t10 w =>
  cnd t10
  (R (.returned (.bool false)) w)
  (ix a0 (Value.int IntKind.i64 0) (fun t13 w =>
  bI .eql .u8 t13 (Value.int IntKind.u8 39) (fun t14 w =>
  cnd t14
  (R (.returned (.bool false)) w)
  (sm [(a0, a0), (t8, t8)] [] [] (k1 (.bool false) w))) w) w)) w)) w) w
theorem e_lex_PlainSymbol (R : Ending → World → Prop) (a0 : Value) (w : World) : vcFn P tab 4000 Tryz.f144.ntmps (Tryz.f144.body.getD .skip) Tryz.f144.results.toList [a0] R w = d_lex_PlainSymbol R a0 w := by kernel_rfl
theorem t_lex_PlainSymbol (R : Ending → World → Prop) (a0 : Value) (w : World) (h : d_lex_PlainSymbol R a0 w) : Tr P F.lex_PlainSymbol [a0] w R :=
  fn_ok (fn := Tryz.f144) (c := Tryz.f144.body.getD .skip) (fuel := 4000) mixed tab_ok Tryz.func144 (by kernel_rfl) (by kernel_rfl) (Nat.le_of_ble_eq_true (by kernel_rfl)) (Eq.mpr (e_lex_PlainSymbol R a0 w) h)
/-- (*lapidary/tree.writer).list -/
def d_tree_writer_list (R : Ending → World → Prop) (a0 a1 a2 : Value) (w : World) : Prop :=
  lnL a1 (fun t9 w =>
  lp 1 [(Value.int IntKind.i64 0)] (fun r1 x10 w =>
  bI .lss .i64 x10 t9 (fun t11 w =>
  cnd t11
  (ia 6 a1 x10 (fun t13 w =>
  ldn 6 t13 (fun t14 w =>
  al [.int .i64 0, .string ⟨#[]⟩, .int .i64 0, .int .i64 0, .slice none 0 0, .slice none 0 0] 50 (fun t7 w =>
  st 6 t7 t14 (fun w =>
  bI .gtr .i64 x10 (Value.int IntKind.i64 0) (fun t16 w =>
  cnd t16
  (nc a0 (fun t18 w =>
  fa 0 t18 (fun t19 w =>
  cl P F.strings_Builder_WriteString [t19, a2] (fun t21 w =>
  ldn 6 t7 (fun t23 w =>
  cl P F.tree_writer_node [a0, t23] (fun t24 w =>
  bI .add .i64 x10 (Value.int IntKind.i64 1) (fun t25 w =>
  sm [(a0, a0), (a2, a2), (a1, a1), (t9, t9)] [] [] (r1 [t25] w)) w) (fun ch w => R (.panicked ch) w) w) w) (fun ch w => R (.panicked ch) w) w) w) w)
  (ldn 6 t7 (fun t23 w =>
  cl P F.tree_writer_node [a0, t23] (fun t24 w =>
  bI .add .i64 x10 (Value.int IntKind.i64 1) (fun t25 w =>
  sm [(a0, a0), (a2, a2), (a1, a1), (t9, t9)] [] [] (r1 [t25] w)) w) (fun ch w => R (.panicked ch) w) w) w)) w) w) w) w) w)
  (R (.returned (.tuple #[])) w)) w) w) w
theorem e_tree_writer_list (R : Ending → World → Prop) (a0 a1 a2 : Value) (w : World) : vcFn P tab 4000 Tryz.f145.ntmps (Tryz.f145.body.getD .skip) Tryz.f145.results.toList [a0, a1, a2] R w = d_tree_writer_list R a0 a1 a2 w := by kernel_rfl
theorem t_tree_writer_list (R : Ending → World → Prop) (a0 a1 a2 : Value) (w : World) (h : d_tree_writer_list R a0 a1 a2 w) : Tr P F.tree_writer_list [a0, a1, a2] w R :=
  fn_ok (fn := Tryz.f145) (c := Tryz.f145.body.getD .skip) (fuel := 4000) mixed tab_ok Tryz.func145 (by kernel_rfl) (by kernel_rfl) (Nat.le_of_ble_eq_true (by kernel_rfl)) (Eq.mpr (e_tree_writer_list R a0 a1 a2 w) h)
/-- internal/stringslite.CutPrefix -/
def d_internal_stringslite_CutPrefix (R : Ending → World → Prop) (a0 a1 : Value) (w : World) : Prop :=
  cl P F.internal_stringslite_HasPrefix [a0, a1] (fun t8 w =>
  uN t8 (fun t9 w =>
  cnd t9
  (R (.returned (.tuple #[a0, (.bool false)])) w)
  (lnS a1 (fun t13 w =>
  slS a0 (some t13) none (fun t14 w =>
  R (.returned (.tuple #[t14, (.bool true)])) w) w) w)) w) (fun ch w => R (.panicked ch) w) w
theorem e_internal_stringslite_CutPrefix (R : Ending → World → Prop) (a0 a1 : Value) (w : World) : vcFn P tab 4000 Tryz.f159.ntmps (Tryz.f159.body.getD .skip) Tryz.f159.results.toList [a0, a1] R w = d_internal_stringslite_CutPrefix R a0 a1 w := by kernel_rfl
theorem t_internal_stringslite_CutPrefix (R : Ending → World → Prop) (a0 a1 : Value) (w : World) (h : d_internal_stringslite_CutPrefix R a0 a1 w) : Tr P F.internal_stringslite_CutPrefix [a0, a1] w R :=
  fn_ok (fn := Tryz.f159) (c := Tryz.f159.body.getD .skip) (fuel := 4000) mixed tab_ok Tryz.func159 (by kernel_rfl) (by kernel_rfl) (Nat.le_of_ble_eq_true (by kernel_rfl)) (Eq.mpr (e_internal_stringslite_CutPrefix R a0 a1 w) h)
/-- strings.indexFunc -/
def d_strings_indexFunc (R : Ending → World → Prop) (a0 a1 a2 : Value) (w : World) : Prop :=
  rgS a0 (fun t10 w =>
  lp 1 [(Value.int IntKind.i64 0)] (fun r1 x6 w =>
  nxS t10 (fun t11 w =>
  ex t11 0 (fun t12 w =>
  cnd t12
  (ex t11 1 (fun t13 w =>
  ex t11 2 (fun t14 w =>
  clv P a1 [t14] (fun t17 w =>
  bB .eql t17 a2 (fun t19 w =>
  cnd t19
  (R (.returned t13) w)
  (sm [(a1, a1), (a2, a2), (t10, t10)] [] [] (r1 [x6] w))) w) (fun ch w => R (.panicked ch) w) w) w) w)
  (R (.returned (Value.int IntKind.i64 (-1))) w)) w) w) w) w
theorem e_strings_indexFunc (R : Ending → World → Prop) (a0 a1 a2 : Value) (w : World) : vcFn P tab 4000 Tryz.f160.ntmps (Tryz.f160.body.getD .skip) Tryz.f160.results.toList [a0, a1, a2] R w = d_strings_indexFunc R a0 a1 a2 w := by kernel_rfl
theorem t_strings_indexFunc (R : Ending → World → Prop) (a0 a1 a2 : Value) (w : World) (h : d_strings_indexFunc R a0 a1 a2 w) : Tr P F.strings_indexFunc [a0, a1, a2] w R :=
  fn_ok (fn := Tryz.f160) (c := Tryz.f160.body.getD .skip) (fuel := 4000) mixed tab_ok Tryz.func160 (by kernel_rfl) (by kernel_rfl) (Nat.le_of_ble_eq_true (by kernel_rfl)) (Eq.mpr (e_strings_indexFunc R a0 a1 a2 w) h)
/-- lapidary/whole.made -/
def d_whole_made (R : Ending → World → Prop) (a0 a1 : Value) (w : World) : Prop :=
  al [.bool false, .slice none 0 0] 178 (fun t4 w =>
  cl P F.whole_words_bytes [a1] (fun t7 w =>
  cnd a0
  (lnL t7 (fun t11 w =>
  bI .gtr .i64 t11 (Value.int IntKind.i64 0) (fun t12 w =>
  bd [.bool false, .slice none 0 0] [(0, 1, t12), (1, 1, t7)] (fun t15 w =>
  st 2 t4 t15 (fun w =>
  ldn 2 t4 (fun r0 w =>
  R (.returned r0) w) w) w) w) w) w)
  (bd [.bool false, .slice none 0 0] [(0, 1, (.bool false)), (1, 1, t7)] (fun t15 w =>
  st 2 t4 t15 (fun w =>
  ldn 2 t4 (fun r0 w =>
  R (.returned r0) w) w) w) w)) (fun ch w => R (.panicked ch) w) w) w
theorem e_whole_made (R : Ending → World → Prop) (a0 a1 : Value) (w : World) : vcFn P tab 4000 Tryz.f161.ntmps (Tryz.f161.body.getD .skip) Tryz.f161.results.toList [a0, a1] R w = d_whole_made R a0 a1 w := by kernel_rfl
theorem t_whole_made (R : Ending → World → Prop) (a0 a1 : Value) (w : World) (h : d_whole_made R a0 a1 w) : Tr P F.whole_made [a0, a1] w R :=
  fn_ok (fn := Tryz.f161) (c := Tryz.f161.body.getD .skip) (fuel := 4000) mixed tab_ok Tryz.func161 (by kernel_rfl) (by kernel_rfl) (Nat.le_of_ble_eq_true (by kernel_rfl)) (Eq.mpr (e_whole_made R a0 a1 w) h)
/-- (*strings.Builder).copyCheck -/
def d_strings_Builder_copyCheck (R : Ending → World → Prop) (a0 : Value) (w : World) : Prop :=
  nc a0 (fun t3 w =>
  fa 0 t3 (fun t4 w =>
  ld t4 (fun t5 w =>
  bN .eql (.ptr 189) t5 (Value.pointer none) (fun t6 w =>
  cnd t6
  (rx P (convert 187 245 a0) (fun t9 w =>
  cl P F.internal_abi_NoEscape [t9] (fun t10 w =>
  rx P (convert 245 187 t10) (fun t11 w =>
  nc a0 (fun t12 w =>
  fa 0 t12 (fun t13 w =>
  st 1 t13 t11 (fun w =>
  R (.returned (.tuple #[])) w) w) w) w) w) (fun ch w => R (.panicked ch) w) w) w)
  (nc a0 (fun t15 w =>
  fa 0 t15 (fun t16 w =>
  ld t16 (fun t17 w =>
  rV P (eqRun .neq 187 (Operand.tmp 17) (Operand.tmp 18) t17 a0) (fun t19 w =>
  cnd t19
  (False)
  (R (.returned (.tuple #[])) w)) w) w) w) w)) w) w) w) w
theorem e_strings_Builder_copyCheck (R : Ending → World → Prop) (a0 : Value) (w : World) : vcFn P tab 4000 Tryz.f162.ntmps (Tryz.f162.body.getD .skip) Tryz.f162.results.toList [a0] R w = d_strings_Builder_copyCheck R a0 w := by kernel_rfl
theorem t_strings_Builder_copyCheck (R : Ending → World → Prop) (a0 : Value) (w : World) (h : d_strings_Builder_copyCheck R a0 w) : Tr P F.strings_Builder_copyCheck [a0] w R :=
  fn_ok (fn := Tryz.f162) (c := Tryz.f162.body.getD .skip) (fuel := 4000) mixed tab_ok Tryz.func162 (by kernel_rfl) (by kernel_rfl) (Nat.le_of_ble_eq_true (by kernel_rfl)) (Eq.mpr (e_strings_Builder_copyCheck R a0 w) h)
/-- (*lapidary/tree.parser).keyed -/
def d_tree_parser_keyed (R : Ending → World → Prop) (a0 : Value) (w : World) : Prop :=
  al [.int .i64 0, .string ⟨#[]⟩, .int .i64 0, .int .i64 0, .slice none 0 0, .slice none 0 0] 50 (fun t2 w =>
  cl P F.tree_parser_chain [a0, (Value.int IntKind.i64 2), (.bool true), (.func (.func F.tree_parser_binary) #[a0] #[])] (fun t7 w =>
  ex t7 0 (fun t8 w =>
  ex t7 1 (fun t9 w =>
  st 6 t2 t8 (fun w =>
  ldn 6 t2 (fun r0 w =>
  R (.returned (.tuple #[r0, t9])) w) w) w) w) w) (fun ch w => R (.panicked ch) w) w) w
theorem e_tree_parser_keyed (R : Ending → World → Prop) (a0 : Value) (w : World) : vcFn P tab 4000 Tryz.f163.ntmps (Tryz.f163.body.getD .skip) Tryz.f163.results.toList [a0] R w = d_tree_parser_keyed R a0 w := by kernel_rfl
theorem t_tree_parser_keyed (R : Ending → World → Prop) (a0 : Value) (w : World) (h : d_tree_parser_keyed R a0 w) : Tr P F.tree_parser_keyed [a0] w R :=
  fn_ok (fn := Tryz.f163) (c := Tryz.f163.body.getD .skip) (fuel := 4000) mixed tab_ok Tryz.func163 (by kernel_rfl) (by kernel_rfl) (Nat.le_of_ble_eq_true (by kernel_rfl)) (Eq.mpr (e_tree_parser_keyed R a0 w) h)
/-- (*lapidary/tree.parser).message -/
def d_tree_parser_message (R : Ending → World → Prop) (a0 : Value) (w : World) : Prop :=
  al [.int .i64 0, .string ⟨#[]⟩, .int .i64 0, .int .i64 0, .slice none 0 0, .slice none 0 0] 50 (fun t2 w =>
  nc a0 (fun t10 w =>
  fa 0 t10 (fun t11 w =>
  ld t11 (fun t12 w =>
  ia 3 t12 (Value.int IntKind.i64 0) (fun t13 w =>
  ldn 3 t13 (fun t14 w =>
  al [.int .i64 0, .string ⟨#[]⟩, .int .i64 0] 112 (fun t3 w =>
  st 3 t3 t14 (fun w =>
  fa 2 t3 (fun t15 w =>
  ld t15 (fun t16 w =>
  bd [.int .i64 0, .string ⟨#[]⟩, .int .i64 0, .int .i64 0, .slice none 0 0, .slice none 0 0] [(0, 1, (Value.int IntKind.i64 9)), (2, 1, t16)] (fun t17 w =>
  al [.int .i64 0, .string ⟨#[]⟩, .int .i64 0, .int .i64 0, .slice none 0 0, .slice none 0 0] 50 (fun t4 w =>
  st 6 t4 t17 (fun w =>
  fa 0 t3 (fun t18 w =>
  ld t18 (fun t19 w =>
  bI .eql .i64 t19 (Value.int IntKind.i64 1) (fun t23 w =>
  cnd t23
  (cl P F.tree_parser_take [a0] (fun t25 w =>
  fl false 1 1 t25 (fun t26 w =>
  fa 1 t4 (fun t27 w =>
  st 1 t27 t26 (fun w =>
  ldn 6 t4 (fun t65 w =>
  st 6 t2 t65 (fun w =>
  ldn 6 t2 (fun r0 w =>
  R (.returned r0) w) w) w) w) w) w) w) (fun ch w => R (.panicked ch) w) w)
  (bI .eql .i64 t19 (Value.int IntKind.i64 3) (fun t29 w =>
  cnd t29
  (cl P F.tree_parser_take [a0] (fun t31 w =>
  fl false 1 1 t31 (fun t32 w =>
  fa 1 t4 (fun t33 w =>
  st 1 t33 t32 (fun w =>
  cl P F.tree_parser_unary [a0] (fun t36 w =>
  ex t36 0 (fun t37 w =>
  ex t36 1 (fun t38 w =>
  al [.int .i64 0, .string ⟨#[]⟩, .int .i64 0, .int .i64 0, .slice none 0 0, .slice none 0 0] 50 (fun t5 w =>
  st 6 t5 t37 (fun w =>
  ldn 6 t5 (fun t39 w =>
  bs 50 [.int .i64 0, .string ⟨#[]⟩, .int .i64 0, .int .i64 0, .slice none 0 0, .slice none 0 0] 1 [(0, 6, t39)] (fun t40 w =>
  fa 5 t4 (fun t41 w =>
  st 1 t41 t40 (fun w =>
  ldn 6 t4 (fun t65 w =>
  st 6 t2 t65 (fun w =>
  ldn 6 t2 (fun r0 w =>
  R (.returned r0) w) w) w) w) w) w) w) w) w) w) w) w) (fun ch w => R (.panicked ch) w) w) w) w) w) (fun ch w => R (.panicked ch) w) w)
  (bI .eql .i64 t19 (Value.int IntKind.i64 2) (fun t43 w =>
  cnd t43
  (lp 0 [] (fun r1 w =>
  cl P F.tree_parser_kind [a0] (fun t45 w =>
  bI .eql .i64 t45 (Value.int IntKind.i64 2) (fun t46 w =>
  cnd t46
  (drw w (fun w =>
  fa 1 t4 (fun t47 w =>
  ld t47 (fun t48 w =>
  cl P F.tree_parser_take [a0] (fun t50 w =>
  rk false t47 t48
  (fl false 1 1 t50 (fun t51 w =>
  bS .add t48 t51 (fun t52 w =>
  fa 1 t4 (fun t53 w =>
  st 1 t53 t52 (fun w =>
  cl P F.tree_parser_binary [a0] (fun t56 w =>
  ex t56 0 (fun t57 w =>
  ex t56 1 (fun t58 w =>
  al [.int .i64 0, .string ⟨#[]⟩, .int .i64 0, .int .i64 0, .slice none 0 0, .slice none 0 0] 50 (fun t7 w =>
  st 6 t7 t57 (fun w =>
  fa 5 t4 (fun t59 w =>
  ld t59 (fun t60 w =>
  ldn 6 t7 (fun t61 w =>
  bs 50 [.int .i64 0, .string ⟨#[]⟩, .int .i64 0, .int .i64 0, .slice none 0 0, .slice none 0 0] 1 [(0, 6, t61)] (fun t62 w =>
  ap 50 6 88 [.int .i64 0, .string ⟨#[]⟩, .int .i64 0, .int .i64 0, .slice none 0 0, .slice none 0 0] t60 t62 (fun t63 w =>
  fa 5 t4 (fun t64 w =>
  st 1 t64 t63 (fun w =>
  sm [(a0, a0), (t2, t2), (t4, t4)] [] [] (r1 [] w)) w) w) w) w) w) w) w) w) w) w) w) (fun ch w => R (.panicked ch) w) w) w) w) w) w) w) (fun ch w => R (.panicked ch) w) w) w) w))
  (ldn 6 t4 (fun t65 w =>
  st 6 t2 t65 (fun w =>
  ldn 6 t2 (fun r0 w =>
  R (.returned r0) w) w) w) w)) w) (fun ch w => R (.panicked ch) w) w) w)
  (cl P F.tree_parser_bad [a0, (Value.int IntKind.i64 20)] (fun t21 w =>
  ldn 6 t4 (fun t65 w =>
  st 6 t2 t65 (fun w =>
  ldn 6 t2 (fun r0 w =>
  R (.returned r0) w) w) w) w) (fun ch w => R (.panicked ch) w) w)) w)) w)) w) w) w) w) w) w) w) w) w) w) w) w) w) w) w) w
theorem e_tree_parser_message (R : Ending → World → Prop) (a0 : Value) (w : World) : vcFn P tab 4000 Tryz.f164.ntmps (Tryz.f164.body.getD .skip) Tryz.f164.results.toList [a0] R w = d_tree_parser_message R a0 w := by kernel_rfl
theorem t_tree_parser_message (R : Ending → World → Prop) (a0 : Value) (w : World) (h : d_tree_parser_message R a0 w) : Tr P F.tree_parser_message [a0] w R :=
  fn_ok (fn := Tryz.f164) (c := Tryz.f164.body.getD .skip) (fuel := 4000) mixed tab_ok Tryz.func164 (by kernel_rfl) (by kernel_rfl) (Nat.le_of_ble_eq_true (by kernel_rfl)) (Eq.mpr (e_tree_parser_message R a0 w) h)
/-- strings.ReplaceAll -/
def d_strings_ReplaceAll (R : Ending → World → Prop) (a0 a1 a2 : Value) (w : World) : Prop :=
  cl P F.strings_Replace [a0, a1, a2, (Value.int IntKind.i64 (-1))] (fun t10 w =>
  R (.returned t10) w) (fun ch w => R (.panicked ch) w) w
theorem e_strings_ReplaceAll (R : Ending → World → Prop) (a0 a1 a2 : Value) (w : World) : vcFn P tab 4000 Tryz.f165.ntmps (Tryz.f165.body.getD .skip) Tryz.f165.results.toList [a0, a1, a2] R w = d_strings_ReplaceAll R a0 a1 a2 w := by kernel_rfl
theorem t_strings_ReplaceAll (R : Ending → World → Prop) (a0 a1 a2 : Value) (w : World) (h : d_strings_ReplaceAll R a0 a1 a2 w) : Tr P F.strings_ReplaceAll [a0, a1, a2] w R :=
  fn_ok (fn := Tryz.f165) (c := Tryz.f165.body.getD .skip) (fuel := 4000) mixed tab_ok Tryz.func165 (by kernel_rfl) (by kernel_rfl) (Nat.le_of_ble_eq_true (by kernel_rfl)) (Eq.mpr (e_strings_ReplaceAll R a0 a1 a2 w) h)
/-- internal/stringslite.HasPrefix -/
def d_internal_stringslite_HasPrefix (R : Ending → World → Prop) (a0 a1 : Value) (w : World) : Prop :=
  lnS a0 (fun t6 w =>
  lnS a1 (fun t8 w =>
  bI .geq .i64 t6 t8 (fun t9 w =>
  cnd t9
  (lnS a1 (fun t13 w =>
  slS a0 none (some t13) (fun t14 w =>
  bS .eql t14 a1 (fun t16 w =>
  R (.returned t16) w) w) w) w)
  (R (.returned (.bool false)) w)) w) w) w
theorem e_internal_stringslite_HasPrefix (R : Ending → World → Prop) (a0 a1 : Value) (w : World) : vcFn P tab 4000 Tryz.f179.ntmps (Tryz.f179.body.getD .skip) Tryz.f179.results.toList [a0, a1] R w = d_internal_stringslite_HasPrefix R a0 a1 w := by kernel_rfl
theorem t_internal_stringslite_HasPrefix (R : Ending → World → Prop) (a0 a1 : Value) (w : World) (h : d_internal_stringslite_HasPrefix R a0 a1 w) : Tr P F.internal_stringslite_HasPrefix [a0, a1] w R :=
  fn_ok (fn := Tryz.f179) (c := Tryz.f179.body.getD .skip) (fuel := 4000) mixed tab_ok Tryz.func179 (by kernel_rfl) (by kernel_rfl) (Nat.le_of_ble_eq_true (by kernel_rfl)) (Eq.mpr (e_internal_stringslite_HasPrefix R a0 a1 w) h)
/-- (lapidary/whole.words).bytes -/
def d_whole_words_bytes (R : Ending → World → Prop) (a0 : Value) (w : World) : Prop :=
  al [.slice none 0 0] 176 (fun t3 w =>
  cl P F.whole_words_trim [a0] (fun t8 w =>
  cl P F.slices_Backward_whole_words_uint32 [t8] (fun t9 w =>
  rf P 2 t9 (fun o1 ob1 l1 n1 x10 x11 w =>
  lk l1 o1 (up l1 o1 ob1 (fun w =>
  bH .shr .u32 x11 (Value.int IntKind.u64 24) (fun t13 w =>
  cI .u8 t13 (fun t14 w =>
  bH .shr .u32 x11 (Value.int IntKind.u64 16) (fun t16 w =>
  cI .u8 t16 (fun t17 w =>
  bH .shr .u32 x11 (Value.int IntKind.u64 8) (fun t19 w =>
  cI .u8 t19 (fun t20 w =>
  cI .u8 x11 (fun t22 w =>
  bd [.int .u8 0, .int .u8 0, .int .u8 0, .int .u8 0] [(0, 1, t14), (1, 1, t17), (2, 1, t20), (3, 1, t22)] (fun t23 w =>
  al [.int .u8 0, .int .u8 0, .int .u8 0, .int .u8 0] 252 (fun t6 w =>
  st 4 t6 t23 (fun w =>
  drw w (fun w =>
  ld t3 (fun t24 w =>
  slA 4 1 t6 none none none (fun t25 w =>
  ap 5 1 1 [.int .u8 0] t24 t25 (fun t26 w =>
  st 1 t3 t26 (fun w =>
  up l1 ob1 o1 n1 w) w) w) w) w)) w) w) w) w) w) w) w) w) w) w) w) w) (fun d1 w =>
  lp 0 [] (fun r2 w =>
  ld t3 (fun t27 w =>
  lnL t27 (fun t28 w =>
  bI .gtr .i64 t28 (Value.int IntKind.i64 0) (fun t29 w =>
  cnd t29
  (ld t3 (fun t31 w =>
  ia 1 t31 (Value.int IntKind.i64 0) (fun t32 w =>
  ld t32 (fun t33 w =>
  bI .eql .u8 t33 (Value.int IntKind.u8 0) (fun t34 w =>
  cnd t34
  (ld t3 (fun t36 w =>
  slL 1 t36 (some (Value.int IntKind.i64 1)) none none (fun t37 w =>
  st 1 t3 t37 (fun w =>
  sm [((Value.slice none 0 0), (Value.slice none 0 0)), (t3, t3)] (mark d1 :: []) (mark d1 :: []) (r2 [] w)) w) w) w)
  (ld t3 (fun t38 w =>
  cl P F.slices_Clone_byte_byte [t38] (fun t39 w =>
  up d1 (.deferred (some [])) (.deferred none) (fun w =>
  R (.returned t39) w) w) (fun ch w => up d1 (.deferred (some [])) (.deferred none) (fun w =>
  R (.panicked ch) w) w) w) w)) w) w) w) w)
  (ld t3 (fun t38 w =>
  cl P F.slices_Clone_byte_byte [t38] (fun t39 w =>
  up d1 (.deferred (some [])) (.deferred none) (fun w =>
  R (.returned t39) w) w) (fun ch w => up d1 (.deferred (some [])) (.deferred none) (fun w =>
  R (.panicked ch) w) w) w) w)) w) w) w) w) w) (fun ch w => R (.panicked ch) w) w) (fun ch w => R (.panicked ch) w) w) w
theorem e_whole_words_bytes (R : Ending → World → Prop) (a0 : Value) (w : World) : vcFnM P tab 4000 Tryz.f180.ntmps (Tryz.f180.body.getD .skip) Tryz.f180.results.toList [a0] R w = d_whole_words_bytes R a0 w := by kernel_rfl
theorem t_whole_words_bytes (R : Ending → World → Prop) (a0 : Value) (w : World) (h : d_whole_words_bytes R a0 w) : Tr P F.whole_words_bytes [a0] w R :=
  fnM_ok (fn := Tryz.f180) (c := Tryz.f180.body.getD .skip) (fuel := 4000) mixed tab_ok Tryz.func180 (by kernel_rfl) (by kernel_rfl) (Nat.le_of_ble_eq_true (by kernel_rfl)) (Eq.mpr (e_whole_words_bytes R a0 w) h)
/-- (*lapidary/tree.parser).chain -/
def d_tree_parser_chain (R : Ending → World → Prop) (a0 a1 a2 a3 : Value) (w : World) : Prop :=
  al [.int .i64 0, .string ⟨#[]⟩, .int .i64 0, .int .i64 0, .slice none 0 0, .slice none 0 0] 50 (fun t8 w =>
  clv P a3 [] (fun t14 w =>
  ex t14 0 (fun t15 w =>
  ex t14 1 (fun t16 w =>
  al [.int .i64 0, .string ⟨#[]⟩, .int .i64 0, .int .i64 0, .slice none 0 0, .slice none 0 0] 50 (fun t10 w =>
  st 6 t10 t15 (fun w =>
  lp 1 [t16] (fun r1 x11 w =>
  cl P F.tree_parser_kind [a0] (fun t18 w =>
  bI .eql .i64 t18 a1 (fun t20 w =>
  cnd t20
  (ldn 6 t10 (fun t22 w =>
  cl P F.tree_parser_sent [a0, t22] (fun t23 w =>
  st 6 t10 t23 (fun w =>
  cnd a2
  (ldn 6 t10 (fun t25 w =>
  st 6 t8 t25 (fun w =>
  ldn 6 t8 (fun r0 w =>
  R (.returned (.tuple #[r0, (.bool true)])) w) w) w) w)
  (sm [(a0, a0), (a1, a1), (a2, a2), (t8, t8), ((.bool false), (.bool false)), (t10, t10)] [] [] (r1 [(.bool true)] w))) w) (fun ch w => R (.panicked ch) w) w) w)
  (ldn 6 t10 (fun t25 w =>
  st 6 t8 t25 (fun w =>
  ldn 6 t8 (fun r0 w =>
  R (.returned (.tuple #[r0, x11])) w) w) w) w)) w) (fun ch w => R (.panicked ch) w) w) w) w) w) w) w) (fun ch w => R (.panicked ch) w) w) w
theorem e_tree_parser_chain (R : Ending → World → Prop) (a0 a1 a2 a3 : Value) (w : World) : vcFn P tab 4000 Tryz.f182.ntmps (Tryz.f182.body.getD .skip) Tryz.f182.results.toList [a0, a1, a2, a3] R w = d_tree_parser_chain R a0 a1 a2 a3 w := by kernel_rfl
theorem t_tree_parser_chain (R : Ending → World → Prop) (a0 a1 a2 a3 : Value) (w : World) (h : d_tree_parser_chain R a0 a1 a2 a3 w) : Tr P F.tree_parser_chain [a0, a1, a2, a3] w R :=
  fn_ok (fn := Tryz.f182) (c := Tryz.f182.body.getD .skip) (fuel := 4000) mixed tab_ok Tryz.func182 (by kernel_rfl) (by kernel_rfl) (Nat.le_of_ble_eq_true (by kernel_rfl)) (Eq.mpr (e_tree_parser_chain R a0 a1 a2 a3 w) h)
/-- (*lapidary/tree.parser).binary -/
def d_tree_parser_binary (R : Ending → World → Prop) (a0 : Value) (w : World) : Prop :=
  al [.int .i64 0, .string ⟨#[]⟩, .int .i64 0, .int .i64 0, .slice none 0 0, .slice none 0 0] 50 (fun t2 w =>
  cl P F.tree_parser_chain [a0, (Value.int IntKind.i64 3), (.bool false), (.func (.func F.tree_parser_unary) #[a0] #[])] (fun t7 w =>
  ex t7 0 (fun t8 w =>
  ex t7 1 (fun t9 w =>
  st 6 t2 t8 (fun w =>
  ldn 6 t2 (fun r0 w =>
  R (.returned (.tuple #[r0, t9])) w) w) w) w) w) (fun ch w => R (.panicked ch) w) w) w
theorem e_tree_parser_binary (R : Ending → World → Prop) (a0 : Value) (w : World) : vcFn P tab 4000 Tryz.f183.ntmps (Tryz.f183.body.getD .skip) Tryz.f183.results.toList [a0] R w = d_tree_parser_binary R a0 w := by kernel_rfl
theorem t_tree_parser_binary (R : Ending → World → Prop) (a0 : Value) (w : World) (h : d_tree_parser_binary R a0 w) : Tr P F.tree_parser_binary [a0] w R :=
  fn_ok (fn := Tryz.f183) (c := Tryz.f183.body.getD .skip) (fuel := 4000) mixed tab_ok Tryz.func183 (by kernel_rfl) (by kernel_rfl) (Nat.le_of_ble_eq_true (by kernel_rfl)) (Eq.mpr (e_tree_parser_binary R a0 w) h)
/-- (*lapidary/tree.parser).unary -/
def d_tree_parser_unary (R : Ending → World → Prop) (a0 : Value) (w : World) : Prop :=
  al [.int .i64 0, .string ⟨#[]⟩, .int .i64 0, .int .i64 0, .slice none 0 0, .slice none 0 0] 50 (fun t2 w =>
  cl P F.tree_parser_chain [a0, (Value.int IntKind.i64 1), (.bool false), (.func (.func F.tree_parser_primary) #[a0] #[])] (fun t7 w =>
  ex t7 0 (fun t8 w =>
  ex t7 1 (fun t9 w =>
  st 6 t2 t8 (fun w =>
  ldn 6 t2 (fun r0 w =>
  R (.returned (.tuple #[r0, t9])) w) w) w) w) w) (fun ch w => R (.panicked ch) w) w) w
theorem e_tree_parser_unary (R : Ending → World → Prop) (a0 : Value) (w : World) : vcFn P tab 4000 Tryz.f184.ntmps (Tryz.f184.body.getD .skip) Tryz.f184.results.toList [a0] R w = d_tree_parser_unary R a0 w := by kernel_rfl
theorem t_tree_parser_unary (R : Ending → World → Prop) (a0 : Value) (w : World) (h : d_tree_parser_unary R a0 w) : Tr P F.tree_parser_unary [a0] w R :=
  fn_ok (fn := Tryz.f184) (c := Tryz.f184.body.getD .skip) (fuel := 4000) mixed tab_ok Tryz.func184 (by kernel_rfl) (by kernel_rfl) (Nat.le_of_ble_eq_true (by kernel_rfl)) (Eq.mpr (e_tree_parser_unary R a0 w) h)
/-- strings.Replace -/
def d_strings_Replace (R : Ending → World → Prop) (a0 a1 a2 a3 : Value) (w : World) : Prop :=
  jn 1 (fun x8 w =>
  jn 2 (fun x3 x8 w =>
  al [.pointer none, .slice none 0 0] 189 (fun t10 w =>
  lnS a0 (fun t39 w =>
  lnS a2 (fun t42 w =>
  lnS a1 (fun t44 w =>
  bI .sub .i64 t42 t44 (fun t45 w =>
  bI .mul .i64 x3 t45 (fun t46 w =>
  bI .add .i64 t39 t46 (fun t47 w =>
  cl P F.strings_Builder_Grow [t10, t47] (fun t48 w =>
  jn 1 (fun x11 w =>
  slS a0 (some x11) none (fun t101 w =>
  cl P F.strings_Builder_WriteString [t10, t101] (fun t102 w =>
  cl P F.strings_Builder_String [t10] (fun t103 w =>
  R (.returned t103) w) (fun ch w => R (.panicked ch) w) w) (fun ch w => R (.panicked ch) w) w) w) (fun k3 =>
  lnS a1 (fun t50 w =>
  bI .gtr .i64 t50 (Value.int IntKind.i64 0) (fun t51 w =>
  cnd t51
  (lp 2 [(Value.int IntKind.i64 0), (Value.int IntKind.i64 0)] (fun r4 x11 x53 w =>
  bI .lss .i64 x53 x3 (fun t54 w =>
  cnd t54
  (slS a0 (some x11) none (fun t58 w =>
  cl P F.strings_Index [t58, a1] (fun t60 w =>
  bI .add .i64 x11 t60 (fun t61 w =>
  slS a0 (some x11) (some t61) (fun t65 w =>
  cl P F.strings_Builder_WriteString [t10, t65] (fun t66 w =>
  cl P F.strings_Builder_WriteString [t10, a2] (fun t68 w =>
  lnS a1 (fun t71 w =>
  bI .add .i64 t61 t71 (fun t72 w =>
  bI .add .i64 x53 (Value.int IntKind.i64 1) (fun t73 w =>
  sm [(a0, a0), (a1, a1), (a2, a2), (x8, x8), (t10, t10), (x3, x3)] [] [] (r4 [t72, t73] w)) w) w) w) (fun ch w => R (.panicked ch) w) w) (fun ch w => R (.panicked ch) w) w) w) w) (fun ch w => R (.panicked ch) w) w) w)
  (sm [(a0, a0), (x8, x8), (t10, t10)] [] [] (k3 x11 w))) w) w)
  (cl P F.strings_Builder_WriteString [t10, a2] (fun t75 w =>
  bI .sub .i64 x3 (Value.int IntKind.i64 1) (fun t77 w =>
  lp 2 [(Value.int IntKind.i64 0), (Value.int IntKind.i64 0)] (fun r5 x11 x78 w =>
  bI .lss .i64 x78 t77 (fun t79 w =>
  cnd t79
  (slS a0 (some x11) none (fun t83 w =>
  cl P F.unicode_utf8_DecodeRuneInString [t83] (fun t84 w =>
  ex t84 0 (fun t85 w =>
  ex t84 1 (fun t86 w =>
  bI .add .i64 x11 t86 (fun t89 w =>
  slS a0 (some x11) (some t89) (fun t93 w =>
  cl P F.strings_Builder_WriteString [t10, t93] (fun t94 w =>
  cl P F.strings_Builder_WriteString [t10, a2] (fun t96 w =>
  bI .add .i64 x78 (Value.int IntKind.i64 1) (fun t98 w =>
  sm [(a0, a0), (a2, a2), (x8, x8), (t10, t10), (t77, t77)] [] [] (r5 [t89, t98] w)) w) (fun ch w => R (.panicked ch) w) w) (fun ch w => R (.panicked ch) w) w) w) w) w) w) (fun ch w => R (.panicked ch) w) w) w)
  (sm [(a0, a0), (x8, x8), (t10, t10)] [] [] (k3 x11 w))) w) w) w) (fun ch w => R (.panicked ch) w) w)) w) w)) (fun ch w => R (.panicked ch) w) w) w) w) w) w) w) w) w) (fun k2 =>
  cl P F.strings_Count [a0, a1] (fun t26 w =>
  bI .eql .i64 t26 (Value.int IntKind.i64 0) (fun t28 w =>
  cnd t28
  (R (.returned a0) w)
  (bI .lss .i64 a3 (Value.int IntKind.i64 0) (fun t31 w =>
  cnd t31
  (sm [(a0, a0), (a1, a1), (a2, a2)] [] [] (k2 t26 x8 w))
  (bI .lss .i64 t26 a3 (fun t35 w =>
  cnd t35
  (sm [(a0, a0), (a1, a1), (a2, a2)] [] [] (k2 t26 x8 w))
  (sm [(a0, a0), (a1, a1), (a2, a2)] [] [] (k2 a3 x8 w))) w)) w)) w) (fun ch w => R (.panicked ch) w) w)) (fun k1 =>
  bS .eql a1 a2 (fun t18 w =>
  cnd t18
  (R (.returned a0) w)
  (bI .eql .i64 a3 (Value.int IntKind.i64 0) (fun t21 w =>
  cnd t21
  (R (.returned a0) w)
  (sm [(a0, a0), (a1, a1), (a2, a2), (a3, a3)] [] [] (k1 (Value.string { data := #[] }) w))) w)) w)
theorem e_strings_Replace (R : Ending → World → Prop) (a0 a1 a2 a3 : Value) (w : World) : vcFn P tab 4000 Tryz.f185.ntmps (Tryz.f185.body.getD .skip) Tryz.f185.results.toList [a0, a1, a2, a3] R w = d_strings_Replace R a0 a1 a2 a3 w := by kernel_rfl
theorem t_strings_Replace (R : Ending → World → Prop) (a0 a1 a2 a3 : Value) (w : World) (h : d_strings_Replace R a0 a1 a2 a3 w) : Tr P F.strings_Replace [a0, a1, a2, a3] w R :=
  fn_ok (fn := Tryz.f185) (c := Tryz.f185.body.getD .skip) (fuel := 4000) mixed tab_ok Tryz.func185 (by kernel_rfl) (by kernel_rfl) (Nat.le_of_ble_eq_true (by kernel_rfl)) (Eq.mpr (e_strings_Replace R a0 a1 a2 a3 w) h)
end Go.Vx
set_option maxRecDepth 100000
set_option linter.unusedVariables false
namespace Go.Vx
open Go Go.Proofs
/-- (*strings.Builder).Grow -/
def d_strings_Builder_Grow (R : Ending → World → Prop) (a0 a1 : Value) (w : World) : Prop :=
  cl P F.strings_Builder_copyCheck [a0] (fun t5 w =>
  jn 0 (fun w =>
  drw w (fun w =>
  nc a0 (fun t10 w =>
  fa 1 t10 (fun t11 w =>
  ld t11 (fun t12 w =>
  cpL t12 (fun t13 w =>
  nc a0 (fun t15 w =>
  fa 1 t15 (fun t16 w =>
  ld t16 (fun t17 w =>
  lnL t17 (fun t18 w =>
  bI .sub .i64 t13 t18 (fun t19 w =>
  bI .lss .i64 t19 a1 (fun t21 w =>
  cnd t21
  (cl P F.strings_Builder_grow [a0, a1] (fun t24 w =>
  R (.returned (.tuple #[])) w) (fun ch w => R (.panicked ch) w) w)
  (R (.returned (.tuple #[])) w)) w) w) w) w) w) w) w) w) w) w)) (fun k1 =>
  bI .lss .i64 a1 (Value.int IntKind.i64 0) (fun t7 w =>
  cnd t7
  (pn (.iface 9 (Value.string { data := #[115, 116, 114, 105, 110, 103, 115, 46, 66, 117, 105, 108, 100, 101, 114, 46, 71, 114, 111, 119, 58, 32, 110, 101, 103, 97, 116, 105, 118, 101, 32, 99, 111, 117, 110, 116] })) (fun ch w => R (.panicked ch) w) w)
  (sm [(a0, a0), (a1, a1)] [] [] (k1 w))) w)) (fun ch w => R (.panicked ch) w) w
theorem e_strings_Builder_Grow (R : Ending → World → Prop) (a0 a1 : Value) (w : World) : vcFn P tab 4000 Tryz.f187.ntmps (Tryz.f187.body.getD .skip) Tryz.f187.results.toList [a0, a1] R w = d_strings_Builder_Grow R a0 a1 w := by kernel_rfl
theorem t_strings_Builder_Grow (R : Ending → World → Prop) (a0 a1 : Value) (w : World) (h : d_strings_Builder_Grow R a0 a1 w) : Tr P F.strings_Builder_Grow [a0, a1] w R :=
  fn_ok (fn := Tryz.f187) (c := Tryz.f187.body.getD .skip) (fuel := 4000) mixed tab_ok Tryz.func187 (by kernel_rfl) (by kernel_rfl) (Nat.le_of_ble_eq_true (by kernel_rfl)) (Eq.mpr (e_strings_Builder_Grow R a0 a1 w) h)
/-- slices.Backward[lapidary/whole.words,uint32] -/
def d_slices_Backward_whole_words_uint32 (R : Ending → World → Prop) (a0 : Value) (w : World) : Prop :=
  al a0.cells.toList 209 (fun t1 w =>
  R (.returned (.func (.func F.slices_Backward_whole_words_uint32_1) #[] #[t1])) w) w
theorem e_slices_Backward_whole_words_uint32 (R : Ending → World → Prop) (a0 : Value) (w : World) : vcFn P tab 4000 Tryz.f189.ntmps (Tryz.f189.body.getD .skip) Tryz.f189.results.toList [a0] R w = d_slices_Backward_whole_words_uint32 R a0 w := by kernel_rfl
theorem t_slices_Backward_whole_words_uint32 (R : Ending → World → Prop) (a0 : Value) (w : World) (h : d_slices_Backward_whole_words_uint32 R a0 w) : Tr P F.slices_Backward_whole_words_uint32 [a0] w R :=
  fn_ok (fn := Tryz.f189) (c := Tryz.f189.body.getD .skip) (fuel := 4000) mixed tab_ok Tryz.func189 (by kernel_rfl) (by kernel_rfl) (Nat.le_of_ble_eq_true (by kernel_rfl)) (Eq.mpr (e_slices_Backward_whole_words_uint32 R a0 w) h)
/-- slices.Clone[[]byte,byte] -/
def d_slices_Clone_byte_byte (R : Ending → World → Prop) (a0 : Value) (w : World) : Prop :=
  bN .eql (.slice 5) a0 (Value.slice none 0 0) (fun t4 w =>
  cnd t4
  (R (.returned (Value.slice none 0 0)) w)
  (bs 5 [.int .u8 0] 0 [] (fun t5 w =>
  ap 5 1 1 [.int .u8 0] t5 a0 (fun t7 w =>
  R (.returned t7) w) w) w)) w
theorem e_slices_Clone_byte_byte (R : Ending → World → Prop) (a0 : Value) (w : World) : vcFn P tab 4000 Tryz.f190.ntmps (Tryz.f190.body.getD .skip) Tryz.f190.results.toList [a0] R w = d_slices_Clone_byte_byte R a0 w := by kernel_rfl
theorem t_slices_Clone_byte_byte (R : Ending → World → Prop) (a0 : Value) (w : World) (h : d_slices_Clone_byte_byte R a0 w) : Tr P F.slices_Clone_byte_byte [a0] w R :=
  fn_ok (fn := Tryz.f190) (c := Tryz.f190.body.getD .skip) (fuel := 4000) mixed tab_ok Tryz.func190 (by kernel_rfl) (by kernel_rfl) (Nat.le_of_ble_eq_true (by kernel_rfl)) (Eq.mpr (e_slices_Clone_byte_byte R a0 w) h)
/-- (*lapidary/tree.parser).sent -/
def d_tree_parser_sent (R : Ending → World → Prop) (a0 a1 : Value) (w : World) : Prop :=
  al a1.cells.toList 50 (fun t3 w =>
  al [.int .i64 0, .string ⟨#[]⟩, .int .i64 0, .int .i64 0, .slice none 0 0, .slice none 0 0] 50 (fun t4 w =>
  cl P F.tree_parser_message [a0] (fun t7 w =>
  al [.int .i64 0, .string ⟨#[]⟩, .int .i64 0, .int .i64 0, .slice none 0 0, .slice none 0 0] 50 (fun t5 w =>
  st 6 t5 t7 (fun w =>
  drw w (fun w =>
  fa 1 t5 (fun t8 w =>
  ld t8 (fun t9 w =>
  fa 2 t5 (fun t10 w =>
  ld t10 (fun t11 w =>
  ldn 6 t3 (fun t12 w =>
  fa 5 t5 (fun t14 w =>
  ld t14 (fun t15 w =>
  bs 50 [.int .i64 0, .string ⟨#[]⟩, .int .i64 0, .int .i64 0, .slice none 0 0, .slice none 0 0] 1 [(0, 6, t12)] (fun t13 w =>
  rk false t14 t15
  (rk false t10 t11
  (rk false t8 t9
  (ap 50 6 88 [.int .i64 0, .string ⟨#[]⟩, .int .i64 0, .int .i64 0, .slice none 0 0, .slice none 0 0] t13 t15 (fun t16 w =>
  rk false t10 t11
  (rk false t8 t9
  (bd [.int .i64 0, .string ⟨#[]⟩, .int .i64 0, .int .i64 0, .slice none 0 0, .slice none 0 0] [(0, 1, (Value.int IntKind.i64 7)), (1, 1, t9), (2, 1, t11), (5, 1, t16)] (fun t17 w =>
  st 6 t4 t17 (fun w =>
  ldn 6 t4 (fun r0 w =>
  R (.returned r0) w) w) w) w) w) w) w) w) w) w) w) w) w) w) w) w) w) w)) w) w) (fun ch w => R (.panicked ch) w) w) w) w
theorem e_tree_parser_sent (R : Ending → World → Prop) (a0 a1 : Value) (w : World) : vcFn P tab 4000 Tryz.f191.ntmps (Tryz.f191.body.getD .skip) Tryz.f191.results.toList [a0, a1] R w = d_tree_parser_sent R a0 a1 w := by kernel_rfl
theorem t_tree_parser_sent (R : Ending → World → Prop) (a0 a1 : Value) (w : World) (h : d_tree_parser_sent R a0 a1 w) : Tr P F.tree_parser_sent [a0, a1] w R :=
  fn_ok (fn := Tryz.f191) (c := Tryz.f191.body.getD .skip) (fuel := 4000) mixed tab_ok Tryz.func191 (by kernel_rfl) (by kernel_rfl) (Nat.le_of_ble_eq_true (by kernel_rfl)) (Eq.mpr (e_tree_parser_sent R a0 a1 w) h)
/-- (*lapidary/tree.parser).primary -/
def d_tree_parser_primary (R : Ending → World → Prop) (a0 : Value) (w : World) : Prop :=
  al a0.cells.toList 70 (fun t1 w =>
  al [.int .i64 0, .string ⟨#[]⟩, .int .i64 0, .int .i64 0, .slice none 0 0, .slice none 0 0] 50 (fun t2 w =>
  ld t1 (fun t6 w =>
  nc t6 (fun t7 w =>
  fa 0 t7 (fun t8 w =>
  ld t8 (fun t9 w =>
  ia 3 t9 (Value.int IntKind.i64 0) (fun t10 w =>
  ldn 3 t10 (fun t11 w =>
  al [.int .i64 0, .string ⟨#[]⟩, .int .i64 0] 112 (fun t4 w =>
  st 3 t4 t11 (fun w =>
  fa 1 t4 (fun t12 w =>
  ld t12 (fun t13 w =>
  fa 2 t4 (fun t14 w =>
  ld t14 (fun t15 w =>
  bd [.int .i64 0, .string ⟨#[]⟩, .int .i64 0, .int .i64 0, .slice none 0 0, .slice none 0 0] [(1, 1, t13), (2, 1, t15)] (fun t16 w =>
  al [.int .i64 0, .string ⟨#[]⟩, .int .i64 0, .int .i64 0, .slice none 0 0, .slice none 0 0] 50 (fun t5 w =>
  st 6 t5 t16 (fun w =>
  jn 1 (fun x3 w =>
  ld t1 (fun t47 w =>
  cl P F.tree_parser_take [t47] (fun t48 w =>
  ldn 6 t5 (fun t49 w =>
  st 6 t2 t49 (fun w =>
  ldn 6 t2 (fun r0 w =>
  R (.returned (.tuple #[r0, (.bool true)])) w) w) w) w) (fun ch w => R (.panicked ch) w) w) w) (fun k1 =>
  fa 0 t4 (fun t17 w =>
  ld t17 (fun t18 w =>
  bI .eql .i64 t18 (Value.int IntKind.i64 1) (fun t22 w =>
  cnd t22
  (fa 0 t5 (fun t23 w =>
  st 1 t23 (Value.int IntKind.i64 5) (fun w =>
  sm [(t1, t1), (t2, t2), (t5, t5)] [] [] (k1 (.bool false) w)) w) w)
  (bI .eql .i64 t18 (Value.int IntKind.i64 4) (fun t25 w =>
  cnd t25
  (fa 0 t5 (fun t26 w =>
  st 1 t26 (Value.int IntKind.i64 1) (fun w =>
  sm [(t1, t1), (t2, t2), (t5, t5)] [] [] (k1 (.bool false) w)) w) w)
  (bI .eql .i64 t18 (Value.int IntKind.i64 5) (fun t28 w =>
  cnd t28
  (fa 0 t5 (fun t29 w =>
  st 1 t29 (Value.int IntKind.i64 2) (fun w =>
  sm [(t1, t1), (t2, t2), (t5, t5)] [] [] (k1 (.bool false) w)) w) w)
  (bI .eql .i64 t18 (Value.int IntKind.i64 6) (fun t31 w =>
  cnd t31
  (fa 0 t5 (fun t32 w =>
  st 1 t32 (Value.int IntKind.i64 3) (fun w =>
  sm [(t1, t1), (t2, t2), (t5, t5)] [] [] (k1 (.bool false) w)) w) w)
  (bI .eql .i64 t18 (Value.int IntKind.i64 17) (fun t34 w =>
  cnd t34
  (ld t1 (fun t35 w =>
  cl P F.tree_parser_list [t35] (fun t36 w =>
  st 6 t2 t36 (fun w =>
  ldn 6 t2 (fun r0 w =>
  R (.returned (.tuple #[r0, (.bool true)])) w) w) w) (fun ch w => R (.panicked ch) w) w) w)
  (bI .eql .i64 t18 (Value.int IntKind.i64 10) (fun t38 w =>
  cnd t38
  (ld t1 (fun t39 w =>
  cl P F.tree_parser_block [t39] (fun t40 w =>
  st 6 t2 t40 (fun w =>
  ldn 6 t2 (fun r0 w =>
  R (.returned (.tuple #[r0, (.bool true)])) w) w) w) (fun ch w => R (.panicked ch) w) w) w)
  (bI .eql .i64 t18 (Value.int IntKind.i64 8) (fun t42 w =>
  cnd t42
  (ld t1 (fun t43 w =>
  cl P F.tree_parser_within [t43, (.func (.func F.tree_parser_primary_1) #[] #[t1, t5])] (fun t45 w =>
  ldn 6 t5 (fun t46 w =>
  st 6 t2 t46 (fun w =>
  ldn 6 t2 (fun r0 w =>
  R (.returned (.tuple #[r0, (.bool false)])) w) w) w) w) (fun ch w => R (.panicked ch) w) w) w)
  (ld t1 (fun t19 w =>
  cl P F.tree_parser_bad [t19, (Value.int IntKind.i64 20)] (fun t20 w =>
  sm [(t1, t1), (t2, t2), (t5, t5)] [] [] (k1 (.bool false) w)) (fun ch w => R (.panicked ch) w) w) w)) w)) w)) w)) w)) w)) w)) w) w) w)) w) w) w) w) w) w) w) w) w) w) w) w) w) w) w) w) w
theorem e_tree_parser_primary (R : Ending → World → Prop) (a0 : Value) (w : World) : vcFn P tab 4000 Tryz.f192.ntmps (Tryz.f192.body.getD .skip) Tryz.f192.results.toList [a0] R w = d_tree_parser_primary R a0 w := by kernel_rfl
theorem t_tree_parser_primary (R : Ending → World → Prop) (a0 : Value) (w : World) (h : d_tree_parser_primary R a0 w) : Tr P F.tree_parser_primary [a0] w R :=
  fn_ok (fn := Tryz.f192) (c := Tryz.f192.body.getD .skip) (fuel := 4000) mixed tab_ok Tryz.func192 (by kernel_rfl) (by kernel_rfl) (Nat.le_of_ble_eq_true (by kernel_rfl)) (Eq.mpr (e_tree_parser_primary R a0 w) h)
/-- strings.Count -/
def d_strings_Count (R : Ending → World → Prop) (a0 a1 : Value) (w : World) : Prop :=
  lnS a1 (fun t8 w =>
  bI .eql .i64 t8 (Value.int IntKind.i64 0) (fun t9 w =>
  cnd t9
  (cl P F.unicode_utf8_RuneCountInString [a0] (fun t11 w =>
  bI .add .i64 t11 (Value.int IntKind.i64 1) (fun t12 w =>
  R (.returned t12) w) w) (fun ch w => R (.panicked ch) w) w)
  (lnS a1 (fun t14 w =>
  bI .eql .i64 t14 (Value.int IntKind.i64 1) (fun t15 w =>
  cnd t15
  (ix a1 (Value.int IntKind.i64 0) (fun t18 w =>
  cl P F.internal_bytealg_CountString [a0, t18] (fun t19 w =>
  R (.returned t19) w) (fun ch w => R (.panicked ch) w) w) w)
  (lp 3 [a0, (Value.int IntKind.i64 0), (Value.int IntKind.i64 0)] (fun r1 x0 x4 x5 w =>
  cl P F.strings_Index [x0, a1] (fun t22 w =>
  bI .eql .i64 t22 (Value.int IntKind.i64 (-1)) (fun t24 w =>
  cnd t24
  (R (.returned x5) w)
  (bI .add .i64 x5 (Value.int IntKind.i64 1) (fun t27 w =>
  lnS a1 (fun t31 w =>
  bI .add .i64 t22 t31 (fun t32 w =>
  slS x0 (some t32) none (fun t33 w =>
  sm [(a1, a1)] [] [] (r1 [t33, x4, t27] w)) w) w) w) w)) w) (fun ch w => R (.panicked ch) w) w) w)) w) w)) w) w
theorem e_strings_Count (R : Ending → World → Prop) (a0 a1 : Value) (w : World) : vcFn P tab 4000 Tryz.f193.ntmps (Tryz.f193.body.getD .skip) Tryz.f193.results.toList [a0, a1] R w = d_strings_Count R a0 a1 w := by kernel_rfl
theorem t_strings_Count (R : Ending → World → Prop) (a0 a1 : Value) (w : World) (h : d_strings_Count R a0 a1 w) : Tr P F.strings_Count [a0, a1] w R :=
  fn_ok (fn := Tryz.f193) (c := Tryz.f193.body.getD .skip) (fuel := 4000) mixed tab_ok Tryz.func193 (by kernel_rfl) (by kernel_rfl) (Nat.le_of_ble_eq_true (by kernel_rfl)) (Eq.mpr (e_strings_Count R a0 a1 w) h)
/-- strings.Index -/
def d_strings_Index (R : Ending → World → Prop) (a0 a1 : Value) (w : World) : Prop :=
  cl P F.internal_stringslite_Index [a0, a1] (fun t7 w =>
  R (.returned t7) w) (fun ch w => R (.panicked ch) w) w
theorem e_strings_Index (R : Ending → World → Prop) (a0 a1 : Value) (w : World) : vcFn P tab 4000 Tryz.f194.ntmps (Tryz.f194.body.getD .skip) Tryz.f194.results.toList [a0, a1] R w = d_strings_Index R a0 a1 w := by kernel_rfl
theorem t_strings_Index (R : Ending → World → Prop) (a0 a1 : Value) (w : World) (h : d_strings_Index R a0 a1 w) : Tr P F.strings_Index [a0, a1] w R :=
  fn_ok (fn := Tryz.f194) (c := Tryz.f194.body.getD .skip) (fuel := 4000) mixed tab_ok Tryz.func194 (by kernel_rfl) (by kernel_rfl) (Nat.le_of_ble_eq_true (by kernel_rfl)) (Eq.mpr (e_strings_Index R a0 a1 w) h)
/-- (*strings.Builder).grow -/
def d_strings_Builder_grow (R : Ending → World → Prop) (a0 a1 : Value) (w : World) : Prop :=
  drw w (fun w =>
  nc a0 (fun t6 w =>
  fa 1 t6 (fun t7 w =>
  ld t7 (fun t8 w =>
  cpL t8 (fun t9 w =>
  bI .mul .i64 (Value.int IntKind.i64 2) t9 (fun t10 w =>
  bI .add .i64 t10 a1 (fun t12 w =>
  nc a0 (fun t15 w =>
  fa 1 t15 (fun t16 w =>
  ld t16 (fun t17 w =>
  lnL t17 (fun t18 w =>
  cl P F.internal_bytealg_MakeNoZero [t12] (fun t13 w =>
  rk false t16 t17
  (slL 1 t13 none (some t18) none (fun t19 w =>
  nc a0 (fun t22 w =>
  fa 1 t22 (fun t23 w =>
  ld t23 (fun t24 w =>
  rx P (Builtin.copy_ #[176, 176] 3 #[t19, t24]) (fun t25 w =>
  nc a0 (fun t28 w =>
  fa 1 t28 (fun t29 w =>
  st 1 t29 t19 (fun w =>
  R (.returned (.tuple #[])) w) w) w) w) w) w) w) w) w) w) (fun ch w => R (.panicked ch) w) w) w) w) w) w) w) w) w) w) w) w)
theorem e_strings_Builder_grow (R : Ending → World → Prop) (a0 a1 : Value) (w : World) : vcFn P tab 4000 Tryz.f196.ntmps (Tryz.f196.body.getD .skip) Tryz.f196.results.toList [a0, a1] R w = d_strings_Builder_grow R a0 a1 w := by kernel_rfl
theorem t_strings_Builder_grow (R : Ending → World → Prop) (a0 a1 : Value) (w : World) (h : d_strings_Builder_grow R a0 a1 w) : Tr P F.strings_Builder_grow [a0, a1] w R :=
  fn_ok (fn := Tryz.f196) (c := Tryz.f196.body.getD .skip) (fuel := 4000) mixed tab_ok Tryz.func196 (by kernel_rfl) (by kernel_rfl) (Nat.le_of_ble_eq_true (by kernel_rfl)) (Eq.mpr (e_strings_Builder_grow R a0 a1 w) h)
/-- slices.Backward[lapidary/whole.words,uint32]$1 -/
def d_slices_Backward_whole_words_uint32_1 (R : Ending → World → Prop) (a0 a1 : Value) (w : World) : Prop :=
  ld a1 (fun t4 w =>
  lnL t4 (fun t5 w =>
  bI .sub .i64 t5 (Value.int IntKind.i64 1) (fun t6 w =>
  lp 1 [t6] (fun r1 x3 w =>
  bI .geq .i64 x3 (Value.int IntKind.i64 0) (fun t8 w =>
  cnd t8
  (ld a1 (fun t13 w =>
  ia 1 t13 x3 (fun t15 w =>
  ld t15 (fun t16 w =>
  clv P a0 [x3, t16] (fun t17 w =>
  uN t17 (fun t18 w =>
  cnd t18
  (R (.returned (.tuple #[])) w)
  (bI .sub .i64 x3 (Value.int IntKind.i64 1) (fun t10 w =>
  sm [(a0, a0), (a1, a1)] [] [] (r1 [t10] w)) w)) w) (fun ch w => R (.panicked ch) w) w) w) w) w)
  (R (.returned (.tuple #[])) w)) w) w) w) w) w
theorem e_slices_Backward_whole_words_uint32_1 (R : Ending → World → Prop) (a0 a1 : Value) (w : World) : vcFn P tab 4000 Tryz.f199.ntmps (Tryz.f199.body.getD .skip) Tryz.f199.results.toList [a0, a1] R w = d_slices_Backward_whole_words_uint32_1 R a0 a1 w := by kernel_rfl
theorem t_slices_Backward_whole_words_uint32_1 (R : Ending → World → Prop) (a0 a1 : Value) (w : World) (h : d_slices_Backward_whole_words_uint32_1 R a0 a1 w) : Tr P F.slices_Backward_whole_words_uint32_1 [a0, a1] w R :=
  fn_ok (fn := Tryz.f199) (c := Tryz.f199.body.getD .skip) (fuel := 4000) mixed tab_ok Tryz.func199 (by kernel_rfl) (by kernel_rfl) (Nat.le_of_ble_eq_true (by kernel_rfl)) (Eq.mpr (e_slices_Backward_whole_words_uint32_1 R a0 a1 w) h)
/-- (*lapidary/tree.parser).list -/
def d_tree_parser_list (R : Ending → World → Prop) (a0 : Value) (w : World) : Prop :=
  al a0.cells.toList 70 (fun t1 w =>
  al [.int .i64 0, .string ⟨#[]⟩, .int .i64 0, .int .i64 0, .slice none 0 0, .slice none 0 0] 50 (fun t2 w =>
  ld t1 (fun t4 w =>
  nc t4 (fun t5 w =>
  fa 0 t5 (fun t6 w =>
  ld t6 (fun t7 w =>
  ia 3 t7 (Value.int IntKind.i64 0) (fun t8 w =>
  fa 2 t8 (fun t9 w =>
  ld t9 (fun t10 w =>
  bd [.int .i64 0, .string ⟨#[]⟩, .int .i64 0, .int .i64 0, .slice none 0 0, .slice none 0 0] [(0, 1, (Value.int IntKind.i64 4)), (2, 1, t10)] (fun t11 w =>
  al [.int .i64 0, .string ⟨#[]⟩, .int .i64 0, .int .i64 0, .slice none 0 0, .slice none 0 0] 50 (fun t3 w =>
  st 6 t3 t11 (fun w =>
  ld t1 (fun t12 w =>
  cl P F.tree_parser_within [t12, (.func (.func F.tree_parser_list_1) #[] #[t1, t3])] (fun t14 w =>
  ldn 6 t3 (fun t15 w =>
  st 6 t2 t15 (fun w =>
  ldn 6 t2 (fun r0 w =>
  R (.returned r0) w) w) w) w) (fun ch w => R (.panicked ch) w) w) w) w) w) w) w) w) w) w) w) w) w) w) w
theorem e_tree_parser_list (R : Ending → World → Prop) (a0 : Value) (w : World) : vcFn P tab 4000 Tryz.f200.ntmps (Tryz.f200.body.getD .skip) Tryz.f200.results.toList [a0] R w = d_tree_parser_list R a0 w := by kernel_rfl
theorem t_tree_parser_list (R : Ending → World → Prop) (a0 : Value) (w : World) (h : d_tree_parser_list R a0 w) : Tr P F.tree_parser_list [a0] w R :=
  fn_ok (fn := Tryz.f200) (c := Tryz.f200.body.getD .skip) (fuel := 4000) mixed tab_ok Tryz.func200 (by kernel_rfl) (by kernel_rfl) (Nat.le_of_ble_eq_true (by kernel_rfl)) (Eq.mpr (e_tree_parser_list R a0 w) h)
/-- (*lapidary/tree.parser).block -/
def d_tree_parser_block (R : Ending → World → Prop) (a0 : Value) (w : World) : Prop :=
  al a0.cells.toList 70 (fun t1 w =>
  al [.int .i64 0, .string ⟨#[]⟩, .int .i64 0, .int .i64 0, .slice none 0 0, .slice none 0 0] 50 (fun t2 w =>
  ld t1 (fun t4 w =>
  nc t4 (fun t5 w =>
  fa 0 t5 (fun t6 w =>
  ld t6 (fun t7 w =>
  ia 3 t7 (Value.int IntKind.i64 0) (fun t8 w =>
  fa 2 t8 (fun t9 w =>
  ld t9 (fun t10 w =>
  bd [.int .i64 0, .string ⟨#[]⟩, .int .i64 0, .int .i64 0, .slice none 0 0, .slice none 0 0] [(0, 1, (Value.int IntKind.i64 10)), (2, 1, t10)] (fun t11 w =>
  al [.int .i64 0, .string ⟨#[]⟩, .int .i64 0, .int .i64 0, .slice none 0 0, .slice none 0 0] 50 (fun t3 w =>
  st 6 t3 t11 (fun w =>
  ld t1 (fun t12 w =>
  cl P F.tree_parser_within [t12, (.func (.func F.tree_parser_block_1) #[] #[t1, t3])] (fun t14 w =>
  ldn 6 t3 (fun t15 w =>
  st 6 t2 t15 (fun w =>
  ldn 6 t2 (fun r0 w =>
  R (.returned r0) w) w) w) w) (fun ch w => R (.panicked ch) w) w) w) w) w) w) w) w) w) w) w) w) w) w) w
theorem e_tree_parser_block (R : Ending → World → Prop) (a0 : Value) (w : World) : vcFn P tab 4000 Tryz.f201.ntmps (Tryz.f201.body.getD .skip) Tryz.f201.results.toList [a0] R w = d_tree_parser_block R a0 w := by kernel_rfl
theorem t_tree_parser_block (R : Ending → World → Prop) (a0 : Value) (w : World) (h : d_tree_parser_block R a0 w) : Tr P F.tree_parser_block [a0] w R :=
  fn_ok (fn := Tryz.f201) (c := Tryz.f201.body.getD .skip) (fuel := 4000) mixed tab_ok Tryz.func201 (by kernel_rfl) (by kernel_rfl) (Nat.le_of_ble_eq_true (by kernel_rfl)) (Eq.mpr (e_tree_parser_block R a0 w) h)
/-- (*lapidary/tree.parser).primary$1 -/
def d_tree_parser_primary_1 (R : Ending → World → Prop) (a0 a1 : Value) (w : World) : Prop :=
  ld a0 (fun t2 w =>
  cl P F.tree_parser_expression [t2] (fun t3 w =>
  st 6 a1 t3 (fun w =>
  ld a0 (fun t4 w =>
  cl P F.tree_parser_need [t4, (Value.int IntKind.i64 9)] (fun t5 w =>
  R (.returned (.tuple #[])) w) (fun ch w => R (.panicked ch) w) w) w) w) (fun ch w => R (.panicked ch) w) w) w
theorem e_tree_parser_primary_1 (R : Ending → World → Prop) (a0 a1 : Value) (w : World) : vcFn P tab 4000 Tryz.f202.ntmps (Tryz.f202.body.getD .skip) Tryz.f202.results.toList [a0, a1] R w = d_tree_parser_primary_1 R a0 a1 w := by kernel_rfl
theorem t_tree_parser_primary_1 (R : Ending → World → Prop) (a0 a1 : Value) (w : World) (h : d_tree_parser_primary_1 R a0 a1 w) : Tr P F.tree_parser_primary_1 [a0, a1] w R :=
  fn_ok (fn := Tryz.f202) (c := Tryz.f202.body.getD .skip) (fuel := 4000) mixed tab_ok Tryz.func202 (by kernel_rfl) (by kernel_rfl) (Nat.le_of_ble_eq_true (by kernel_rfl)) (Eq.mpr (e_tree_parser_primary_1 R a0 a1 w) h)
/-- internal/stringslite.Index -/
def d_internal_stringslite_Index (R : Ending → World → Prop) (a0 a1 : Value) (w : World) : Prop :=
  lnS a1 (fun t15 w =>
  jn 1 (fun x4 w =>
  ix a1 (Value.int IntKind.i64 0) (fun t49 w =>
  ix a1 (Value.int IntKind.i64 1) (fun t51 w =>
  lnS a0 (fun t53 w =>
  bI .sub .i64 t53 t15 (fun t55 w =>
  bI .add .i64 t55 (Value.int IntKind.i64 1) (fun t56 w =>
  lp 3 [x4, (Value.int IntKind.i64 0), (Value.int IntKind.i64 0)] (fun r2 x4 x8 x10 w =>
  bI .lss .i64 x8 t56 (fun t59 w =>
  cnd t59
  (jn 2 (fun x4 x8 w =>
  jn 9 (fun x4 x85 x86 x87 x88 x89 x90 x91 x92 w =>
  bI .add .i64 x8 (Value.int IntKind.i64 1) (fun t96 w =>
  bI .add .i64 x10 (Value.int IntKind.i64 1) (fun t98 w =>
  jn 5 (fun x103 x104 x105 x106 x107 w =>
  cnd x107
  (slS a0 (some t96) none (fun t110 w =>
  cl P F.internal_bytealg_IndexString [t110, a1] (fun t112 w =>
  bI .geq .i64 t112 (Value.int IntKind.i64 0) (fun t114 w =>
  cnd t114
  (bI .add .i64 t112 t96 (fun t117 w =>
  R (.returned t117) w) w)
  (R (.returned (Value.int IntKind.i64 (-1))) w)) w) (fun ch w => R (.panicked ch) w) w) w)
  (jn 9 (fun x122 x123 x124 x125 x126 x129 x130 x131 x132 w =>
  cnd x132
  (slS a0 (some t96) none (fun t135 w =>
  cl P F.internal_bytealg_IndexRabinKarp_string [t135, a1] (fun t137 w =>
  bI .lss .i64 t137 (Value.int IntKind.i64 0) (fun t139 w =>
  cnd t139
  (R (.returned (Value.int IntKind.i64 (-1))) w)
  (bI .add .i64 t96 t137 (fun t142 w =>
  R (.returned t142) w) w)) w) (fun ch w => R (.panicked ch) w) w) w)
  (sm [(a0, a0), (a1, a1), (t15, t15), (t49, t49), (t51, t51), (t56, t56)] [] [] (r2 [x4, t96, t98] w))) (fun k6 =>
  ld (ptr 0 0) (fun t119 w =>
  bI .gtr .i64 t15 t119 (fun t120 w =>
  cnd t120
  (bH .shr .i64 t96 (Value.int IntKind.u64 4) (fun t124 w =>
  bI .add .i64 (Value.int IntKind.i64 4) t124 (fun t125 w =>
  bI .geq .i64 t98 t125 (fun t126 w =>
  cnd t126
  (bI .lss .i64 t96 t56 (fun t131 w =>
  sm [(a0, a0), (a1, a1), (x4, x4), (t15, t15), (t49, t49), (t51, t51), (t96, t96), (t56, t56), (t98, t98), (x85, x85), (x86, x86), (x87, x87), (x88, x88), (x89, x89), (x90, x90), (x91, x91), (x92, x92), (x103, x103), (x104, x104), (x105, x105), (x106, x106)] [] [] (k6 t98 t96 t124 t125 t126 t96 t56 t131 t131 w)) w)
  (sm [(a0, a0), (a1, a1), (x4, x4), (t15, t15), (t49, t49), (t51, t51), (t96, t96), (t56, t56), (t98, t98), (x85, x85), (x86, x86), (x87, x87), (x88, x88), (x89, x89), (x90, x90), (x91, x91), (x92, x92), (x103, x103), (x104, x104), (x105, x105), (x106, x106)] [] [] (k6 t98 t96 t124 t125 t126 undef undef undef (.bool false) w))) w) w) w)
  (sm [(a0, a0), (a1, a1), (x4, x4), (t15, t15), (t49, t49), (t51, t51), (t96, t96), (t56, t56), (t98, t98), (x85, x85), (x86, x86), (x87, x87), (x88, x88), (x89, x89), (x90, x90), (x91, x91), (x92, x92), (x103, x103), (x104, x104), (x105, x105), (x106, x106)] [] [] (k6 undef undef undef undef undef undef undef undef (.bool false) w))) w) w))) (fun k5 =>
  ld (ptr 0 0) (fun t100 w =>
  bI .leq .i64 t15 t100 (fun t101 w =>
  cnd t101
  (cl P F.internal_bytealg_Cutover [t96] (fun t105 w =>
  bI .gtr .i64 t98 t105 (fun t106 w =>
  sm [(a0, a0), (a1, a1), (x4, x4), (t15, t15), (t49, t49), (t51, t51), (t96, t96), (t56, t56), (t98, t98), (x85, x85), (x86, x86), (x87, x87), (x88, x88), (x89, x89), (x90, x90), (x91, x91), (x92, x92)] [] [] (k5 t98 t96 t105 t106 t106 w)) w) (fun ch w => R (.panicked ch) w) w)
  (sm [(a0, a0), (a1, a1), (x4, x4), (t15, t15), (t49, t49), (t51, t51), (t96, t96), (t56, t56), (t98, t98), (x85, x85), (x86, x86), (x87, x87), (x88, x88), (x89, x89), (x90, x90), (x91, x91), (x92, x92)] [] [] (k5 undef undef undef undef (.bool false) w))) w) w)) w) w) (fun k4 =>
  bI .add .i64 x8 (Value.int IntKind.i64 1) (fun t80 w =>
  ix a0 t80 (fun t81 w =>
  bI .eql .u8 t81 t51 (fun t83 w =>
  cnd t83
  (bI .add .i64 x8 t15 (fun t89 w =>
  slS a0 (some x8) (some t89) (fun t90 w =>
  bS .eql t90 a1 (fun t92 w =>
  cnd t92
  (R (.returned x8) w)
  (sm [(a0, a0), (a1, a1), (t15, t15), (t49, t49), (t51, t51), (x8, x8), (t56, t56), (x10, x10)] [] [] (k4 x4 a0 x8 x8 t15 t89 t90 a1 t92 w))) w) w) w)
  (sm [(a0, a0), (a1, a1), (t15, t15), (t49, t49), (t51, t51), (x8, x8), (t56, t56), (x10, x10)] [] [] (k4 x4 undef undef undef undef undef undef undef undef w))) w) w) w)) (fun k3 =>
  ix a0 x8 (fun t62 w =>
  bI .neq .u8 t62 t49 (fun t64 w =>
  cnd t64
  (bI .add .i64 x8 (Value.int IntKind.i64 1) (fun t67 w =>
  slS a0 (some t67) (some t56) (fun t69 w =>
  cl P F.internal_stringslite_IndexByte [t69, t49] (fun t71 w =>
  bI .lss .i64 t71 (Value.int IntKind.i64 0) (fun t73 w =>
  cnd t73
  (R (.returned (Value.int IntKind.i64 (-1))) w)
  (bI .add .i64 t71 (Value.int IntKind.i64 1) (fun t76 w =>
  bI .add .i64 x8 t76 (fun t77 w =>
  sm [(a0, a0), (a1, a1), (t15, t15), (t49, t49), (t51, t51), (t56, t56), (x10, x10)] [] [] (k3 x4 t77 w)) w) w)) w) (fun ch w => R (.panicked ch) w) w) w) w)
  (sm [(a0, a0), (a1, a1), (t15, t15), (t49, t49), (t51, t51), (t56, t56), (x10, x10)] [] [] (k3 x4 x8 w))) w) w))
  (R (.returned (Value.int IntKind.i64 (-1))) w)) w) w) w) w) w) w) w) (fun k1 =>
  jn 1 (fun x16 w =>
  cnd x16
  (R (.returned (Value.int IntKind.i64 0)) w)
  (bI .eql .i64 t15 (Value.int IntKind.i64 1) (fun t26 w =>
  cnd t26
  (ix a1 (Value.int IntKind.i64 0) (fun t29 w =>
  cl P F.internal_stringslite_IndexByte [a0, t29] (fun t30 w =>
  R (.returned t30) w) (fun ch w => R (.panicked ch) w) w) w)
  (lnS a0 (fun t34 w =>
  bI .geq .i64 t15 t34 (fun t35 w =>
  cnd t35
  (R (.returned (Value.int IntKind.i64 (-1))) w)
  (jn 1 (fun x36 w =>
  cnd x36
  (cl P F.internal_bytealg_IndexString [a0, a1] (fun t47 w =>
  R (.returned t47) w) (fun ch w => R (.panicked ch) w) w)
  (sm [(a0, a0), (a1, a1), (t15, t15)] [] [] (k1 (Value.int IntKind.i64 0) w))) (fun k8 =>
  ld (ptr 0 0) (fun t38 w =>
  bI .leq .i64 t15 t38 (fun t39 w =>
  cnd t39
  (lnS a0 (fun t42 w =>
  bI .leq .i64 t42 (Value.int IntKind.i64 64) (fun t43 w =>
  sm [(a0, a0), (a1, a1), ((Value.int IntKind.i64 0), (Value.int IntKind.i64 0)), (t15, t15)] [] [] (k8 t43 w)) w) w)
  (sm [(a0, a0), (a1, a1), ((Value.int IntKind.i64 0), (Value.int IntKind.i64 0)), (t15, t15)] [] [] (k8 (.bool false) w))) w) w))) w) w)) w)) (fun k7 =>
  bI .eql .i64 t15 (Value.int IntKind.i64 0) (fun t18 w =>
  cnd t18
  (sm [(a0, a0), (a1, a1), ((Value.int IntKind.i64 0), (Value.int IntKind.i64 0)), (t15, t15)] [] [] (k7 (.bool true) w))
  (bS .eql a1 a0 (fun t22 w =>
  sm [(a0, a0), (a1, a1), ((Value.int IntKind.i64 0), (Value.int IntKind.i64 0)), (t15, t15)] [] [] (k7 t22 w)) w)) w))) w
theorem e_internal_stringslite_Index (R : Ending → World → Prop) (a0 a1 : Value) (w : World) : vcFn P tab 4000 Tryz.f205.ntmps (Tryz.f205.body.getD .skip) Tryz.f205.results.toList [a0, a1] R w = d_internal_stringslite_Index R a0 a1 w := by kernel_rfl
theorem t_internal_stringslite_Index (R : Ending → World → Prop) (a0 a1 : Value) (w : World) (h : d_internal_stringslite_Index R a0 a1 w) : Tr P F.internal_stringslite_Index [a0, a1] w R :=
  fn_ok (fn := Tryz.f205) (c := Tryz.f205.body.getD .skip) (fuel := 4000) mixed tab_ok Tryz.func205 (by kernel_rfl) (by kernel_rfl) (Nat.le_of_ble_eq_true (by kernel_rfl)) (Eq.mpr (e_internal_stringslite_Index R a0 a1 w) h)
/-- (*lapidary/tree.parser).list$1 -/
def d_tree_parser_list_1 (R : Ending → World → Prop) (a0 a1 : Value) (w : World) : Prop :=
  lp 0 [] (fun r1 w =>
  ld a0 (fun t2 w =>
  cl P F.tree_parser_kind [t2] (fun t3 w =>
  bI .neq .i64 t3 (Value.int IntKind.i64 9) (fun t4 w =>
  cnd t4
  (drw w (fun w =>
  ((fa 5 a1 (fun t5 w =>
  ld t5 (fun t6 w =>
  ld a0 (fun t7 w =>
  lnL t6 (fun t9 w =>
  cl P F.tree_parser_element [t7] (fun t8 w =>
  rk false t5 t6
  (bs 50 [.int .i64 0, .string ⟨#[]⟩, .int .i64 0, .int .i64 0, .slice none 0 0, .slice none 0 0] 1 [(0, 6, (Value.agg #[(Value.int IntKind.i64 0), (Value.string { data := #[] }), (Value.int IntKind.i64 0), (Value.int IntKind.i64 0), (Value.slice none 0 0), (Value.slice none 0 0)]))] (fun t10 w =>
  rk false t5 t6
  (ap 50 6 88 [.int .i64 0, .string ⟨#[]⟩, .int .i64 0, .int .i64 0, .slice none 0 0, .slice none 0 0] t6 t10 (fun t11 w =>
  ia 6 t11 t9 (fun t12 w =>
  fa 5 a1 (fun t13 w =>
  st 6 t12 t8 (fun w =>
  st 1 t13 t11 (fun w =>
  sm [(a0, a0), (a1, a1)] [] [] (r1 [] w)) w) w) w) w) w) w) w) w) (fun ch w => R (.panicked ch) w) w) w) w) w) w) ∧
  (fa 5 a1 (fun t5 w =>
  ld t5 (fun t6 w =>
  ld a0 (fun t7 w =>
  lnL t6 (fun t9 w =>
  cl P F.tree_parser_element [t7] (fun t8 w =>
  rk false t5 t6
  (bs 50 [.int .i64 0, .string ⟨#[]⟩, .int .i64 0, .int .i64 0, .slice none 0 0, .slice none 0 0] 1 [(0, 6, (Value.agg #[(Value.int IntKind.i64 0), (Value.string { data := #[] }), (Value.int IntKind.i64 0), (Value.int IntKind.i64 0), (Value.slice none 0 0), (Value.slice none 0 0)]))] (fun t10 w =>
  rk false t5 t6
  (ap 50 6 88 [.int .i64 0, .string ⟨#[]⟩, .int .i64 0, .int .i64 0, .slice none 0 0, .slice none 0 0] t6 t10 (fun t11 w =>
  ia 6 t11 t9 (fun t12 w =>
  fa 5 a1 (fun t13 w =>
  st 1 t13 t11 (fun w =>
  st 6 t12 t8 (fun w =>
  sm [(a0, a0), (a1, a1)] [] [] (r1 [] w)) w) w) w) w) w) w) w) w) (fun ch w => R (.panicked ch) w) w) w) w) w) w)) ∧
  ((fa 5 a1 (fun t5 w =>
  ld t5 (fun t6 w =>
  ld a0 (fun t7 w =>
  lnL t6 (fun t9 w =>
  bs 50 [.int .i64 0, .string ⟨#[]⟩, .int .i64 0, .int .i64 0, .slice none 0 0, .slice none 0 0] 1 [(0, 6, (Value.agg #[(Value.int IntKind.i64 0), (Value.string { data := #[] }), (Value.int IntKind.i64 0), (Value.int IntKind.i64 0), (Value.slice none 0 0), (Value.slice none 0 0)]))] (fun t10 w =>
  rk false a0 t7
  (rk false t5 t6
  (cl P F.tree_parser_element [t7] (fun t8 w =>
  rk false t5 t6
  (ap 50 6 88 [.int .i64 0, .string ⟨#[]⟩, .int .i64 0, .int .i64 0, .slice none 0 0, .slice none 0 0] t6 t10 (fun t11 w =>
  ia 6 t11 t9 (fun t12 w =>
  fa 5 a1 (fun t13 w =>
  st 6 t12 t8 (fun w =>
  st 1 t13 t11 (fun w =>
  sm [(a0, a0), (a1, a1)] [] [] (r1 [] w)) w) w) w) w) w) w) (fun ch w => R (.panicked ch) w) w) w) w) w) w) w) w) w) ∧
  (fa 5 a1 (fun t5 w =>
  ld t5 (fun t6 w =>
  ld a0 (fun t7 w =>
  lnL t6 (fun t9 w =>
  bs 50 [.int .i64 0, .string ⟨#[]⟩, .int .i64 0, .int .i64 0, .slice none 0 0, .slice none 0 0] 1 [(0, 6, (Value.agg #[(Value.int IntKind.i64 0), (Value.string { data := #[] }), (Value.int IntKind.i64 0), (Value.int IntKind.i64 0), (Value.slice none 0 0), (Value.slice none 0 0)]))] (fun t10 w =>
  rk false a0 t7
  (rk false t5 t6
  (cl P F.tree_parser_element [t7] (fun t8 w =>
  rk false t5 t6
  (ap 50 6 88 [.int .i64 0, .string ⟨#[]⟩, .int .i64 0, .int .i64 0, .slice none 0 0, .slice none 0 0] t6 t10 (fun t11 w =>
  ia 6 t11 t9 (fun t12 w =>
  fa 5 a1 (fun t13 w =>
  st 1 t13 t11 (fun w =>
  st 6 t12 t8 (fun w =>
  sm [(a0, a0), (a1, a1)] [] [] (r1 [] w)) w) w) w) w) w) w) (fun ch w => R (.panicked ch) w) w) w) w) w) w) w) w) w))))
  (ld a0 (fun t14 w =>
  cl P F.tree_parser_take [t14] (fun t15 w =>
  R (.returned (.tuple #[])) w) (fun ch w => R (.panicked ch) w) w) w)) w) (fun ch w => R (.panicked ch) w) w) w) w
theorem e_tree_parser_list_1 (R : Ending → World → Prop) (a0 a1 : Value) (w : World) : vcFn P tab 4000 Tryz.f208.ntmps (Tryz.f208.body.getD .skip) Tryz.f208.results.toList [a0, a1] R w = d_tree_parser_list_1 R a0 a1 w := by kernel_rfl
theorem t_tree_parser_list_1 (R : Ending → World → Prop) (a0 a1 : Value) (w : World) (h : d_tree_parser_list_1 R a0 a1 w) : Tr P F.tree_parser_list_1 [a0, a1] w R :=
  fn_ok (fn := Tryz.f208) (c := Tryz.f208.body.getD .skip) (fuel := 4000) mixed tab_ok Tryz.func208 (by kernel_rfl) (by kernel_rfl) (Nat.le_of_ble_eq_true (by kernel_rfl)) (Eq.mpr (e_tree_parser_list_1 R a0 a1 w) h)
/-- (*lapidary/tree.parser).element -/
def d_tree_parser_element (R : Ending → World → Prop) (a0 : Value) (w : World) : Prop :=
  al [.int .i64 0, .string ⟨#[]⟩, .int .i64 0, .int .i64 0, .slice none 0 0, .slice none 0 0] 50 (fun t2 w =>
  nc a0 (fun t6 w =>
  fa 0 t6 (fun t7 w =>
  ld t7 (fun t8 w =>
  ia 3 t8 (Value.int IntKind.i64 0) (fun t9 w =>
  ldn 3 t9 (fun t10 w =>
  al [.int .i64 0, .string ⟨#[]⟩, .int .i64 0] 112 (fun t3 w =>
  st 3 t3 t10 (fun w =>
  fa 1 t3 (fun t11 w =>
  ld t11 (fun t12 w =>
  fa 2 t3 (fun t13 w =>
  ld t13 (fun t14 w =>
  bd [.int .i64 0, .string ⟨#[]⟩, .int .i64 0, .int .i64 0, .slice none 0 0, .slice none 0 0] [(0, 1, (Value.int IntKind.i64 3)), (1, 1, t12), (2, 1, t14)] (fun t15 w =>
  al [.int .i64 0, .string ⟨#[]⟩, .int .i64 0, .int .i64 0, .slice none 0 0, .slice none 0 0] 50 (fun t4 w =>
  st 6 t4 t15 (fun w =>
  fa 0 t3 (fun t16 w =>
  ld t16 (fun t17 w =>
  jn 1 (fun x20 w =>
  cnd x20
  (cl P F.tree_parser_list [a0] (fun t24 w =>
  st 6 t2 t24 (fun w =>
  ldn 6 t2 (fun r0 w =>
  R (.returned r0) w) w) w) (fun ch w => R (.panicked ch) w) w)
  (bI .eql .i64 t17 (Value.int IntKind.i64 4) (fun t26 w =>
  cnd t26
  (fa 0 t4 (fun t27 w =>
  st 1 t27 (Value.int IntKind.i64 1) (fun w =>
  cl P F.tree_parser_take [a0] (fun t52 w =>
  ldn 6 t4 (fun t53 w =>
  st 6 t2 t53 (fun w =>
  ldn 6 t2 (fun r0 w =>
  R (.returned r0) w) w) w) w) (fun ch w => R (.panicked ch) w) w) w) w)
  (bI .eql .i64 t17 (Value.int IntKind.i64 5) (fun t29 w =>
  cnd t29
  (fa 0 t4 (fun t30 w =>
  st 1 t30 (Value.int IntKind.i64 2) (fun w =>
  cl P F.tree_parser_take [a0] (fun t52 w =>
  ldn 6 t4 (fun t53 w =>
  st 6 t2 t53 (fun w =>
  ldn 6 t2 (fun r0 w =>
  R (.returned r0) w) w) w) w) (fun ch w => R (.panicked ch) w) w) w) w)
  (bI .eql .i64 t17 (Value.int IntKind.i64 1) (fun t32 w =>
  cnd t32
  (fa 1 t3 (fun t33 w =>
  ld t33 (fun t34 w =>
  bS .eql t34 (Value.string { data := #[116, 114, 117, 101] }) (fun t35 w =>
  cnd t35
  (fa 0 t4 (fun t46 w =>
  st 1 t46 (Value.int IntKind.i64 13) (fun w =>
  cl P F.tree_parser_take [a0] (fun t52 w =>
  ldn 6 t4 (fun t53 w =>
  st 6 t2 t53 (fun w =>
  ldn 6 t2 (fun r0 w =>
  R (.returned r0) w) w) w) w) (fun ch w => R (.panicked ch) w) w) w) w)
  (fa 1 t3 (fun t37 w =>
  ld t37 (fun t38 w =>
  bS .eql t38 (Value.string { data := #[102, 97, 108, 115, 101] }) (fun t39 w =>
  cnd t39
  (fa 0 t4 (fun t46 w =>
  st 1 t46 (Value.int IntKind.i64 13) (fun w =>
  cl P F.tree_parser_take [a0] (fun t52 w =>
  ldn 6 t4 (fun t53 w =>
  st 6 t2 t53 (fun w =>
  ldn 6 t2 (fun r0 w =>
  R (.returned r0) w) w) w) w) (fun ch w => R (.panicked ch) w) w) w) w)
  (fa 1 t3 (fun t42 w =>
  ld t42 (fun t43 w =>
  bS .eql t43 (Value.string { data := #[110, 105, 108] }) (fun t44 w =>
  cnd t44
  (fa 0 t4 (fun t46 w =>
  st 1 t46 (Value.int IntKind.i64 13) (fun w =>
  cl P F.tree_parser_take [a0] (fun t52 w =>
  ldn 6 t4 (fun t53 w =>
  st 6 t2 t53 (fun w =>
  ldn 6 t2 (fun r0 w =>
  R (.returned r0) w) w) w) w) (fun ch w => R (.panicked ch) w) w) w) w)
  (cl P F.tree_parser_take [a0] (fun t52 w =>
  ldn 6 t4 (fun t53 w =>
  st 6 t2 t53 (fun w =>
  ldn 6 t2 (fun r0 w =>
  R (.returned r0) w) w) w) w) (fun ch w => R (.panicked ch) w) w)) w) w) w)) w) w) w)) w) w) w)
  (bI .eql .i64 t17 (Value.int IntKind.i64 6) (fun t48 w =>
  cnd t48
  (cnd t48
  (cl P F.tree_parser_take [a0] (fun t52 w =>
  ldn 6 t4 (fun t53 w =>
  st 6 t2 t53 (fun w =>
  ldn 6 t2 (fun r0 w =>
  R (.returned r0) w) w) w) w) (fun ch w => R (.panicked ch) w) w)
  (cl P F.tree_parser_bad [a0, (Value.int IntKind.i64 20)] (fun t19 w =>
  cl P F.tree_parser_take [a0] (fun t52 w =>
  ldn 6 t4 (fun t53 w =>
  st 6 t2 t53 (fun w =>
  ldn 6 t2 (fun r0 w =>
  R (.returned r0) w) w) w) w) (fun ch w => R (.panicked ch) w) w) (fun ch w => R (.panicked ch) w) w))
  (bI .eql .i64 t17 (Value.int IntKind.i64 2) (fun t49 w =>
  cnd t49
  (cnd t49
  (cl P F.tree_parser_take [a0] (fun t52 w =>
  ldn 6 t4 (fun t53 w =>
  st 6 t2 t53 (fun w =>
  ldn 6 t2 (fun r0 w =>
  R (.returned r0) w) w) w) w) (fun ch w => R (.panicked ch) w) w)
  (cl P F.tree_parser_bad [a0, (Value.int IntKind.i64 20)] (fun t19 w =>
  cl P F.tree_parser_take [a0] (fun t52 w =>
  ldn 6 t4 (fun t53 w =>
  st 6 t2 t53 (fun w =>
  ldn 6 t2 (fun r0 w =>
  R (.returned r0) w) w) w) w) (fun ch w => R (.panicked ch) w) w) (fun ch w => R (.panicked ch) w) w))
  (bI .eql .i64 t17 (Value.int IntKind.i64 3) (fun t50 w =>
  cnd t50
  (cl P F.tree_parser_take [a0] (fun t52 w =>
  ldn 6 t4 (fun t53 w =>
  st 6 t2 t53 (fun w =>
  ldn 6 t2 (fun r0 w =>
  R (.returned r0) w) w) w) w) (fun ch w => R (.panicked ch) w) w)
  (cl P F.tree_parser_bad [a0, (Value.int IntKind.i64 20)] (fun t19 w =>
  cl P F.tree_parser_take [a0] (fun t52 w =>
  ldn 6 t4 (fun t53 w =>
  st 6 t2 t53 (fun w =>
  ldn 6 t2 (fun r0 w =>
  R (.returned r0) w) w) w) w) (fun ch w => R (.panicked ch) w) w) (fun ch w => R (.panicked ch) w) w)) w)) w)) w)) w)) w)) w)) (fun k1 =>
  bI .eql .i64 t17 (Value.int IntKind.i64 17) (fun t21 w =>
  cnd t21
  (sm [(a0, a0), (t2, t2), (t3, t3), (t4, t4), (t17, t17)] [] [] (k1 t21 w))
  (bI .eql .i64 t17 (Value.int IntKind.i64 8) (fun t22 w =>
  sm [(a0, a0), (t2, t2), (t3, t3), (t4, t4), (t17, t17)] [] [] (k1 t22 w)) w)) w)) w) w) w) w) w) w) w) w) w) w) w) w) w) w) w) w) w
theorem e_tree_parser_element (R : Ending → World → Prop) (a0 : Value) (w : World) : vcFn P tab 4000 Tryz.f209.ntmps (Tryz.f209.body.getD .skip) Tryz.f209.results.toList [a0] R w = d_tree_parser_element R a0 w := by kernel_rfl
theorem t_tree_parser_element (R : Ending → World → Prop) (a0 : Value) (w : World) (h : d_tree_parser_element R a0 w) : Tr P F.tree_parser_element [a0] w R :=
  fn_ok (fn := Tryz.f209) (c := Tryz.f209.body.getD .skip) (fuel := 4000) mixed tab_ok Tryz.func209 (by kernel_rfl) (by kernel_rfl) (Nat.le_of_ble_eq_true (by kernel_rfl)) (Eq.mpr (e_tree_parser_element R a0 w) h)
/-- (*lapidary/tree.parser).block$1 -/
def d_tree_parser_block_1 (R : Ending → World → Prop) (a0 a1 : Value) (w : World) : Prop :=
  lp 0 [] (fun r1 w =>
  ld a0 (fun t2 w =>
  cl P F.tree_parser_kind [t2] (fun t3 w =>
  bI .eql .i64 t3 (Value.int IntKind.i64 16) (fun t4 w =>
  cnd t4
  (ld a0 (fun t5 w =>
  cl P F.tree_parser_take [t5] (fun t6 w =>
  drw w (fun w =>
  fa 4 a1 (fun t7 w =>
  ld t7 (fun t8 w =>
  ld a0 (fun t9 w =>
  cl P F.tree_parser_need [t9, (Value.int IntKind.i64 1)] (fun t10 w =>
  rk false t7 t8
  (fl false 1 1 t10 (fun t11 w =>
  bs 9 [.string ⟨#[]⟩] 1 [(0, 1, t11)] (fun t12 w =>
  rk false t7 t8
  (ap 9 1 16 [.string ⟨#[]⟩] t8 t12 (fun t13 w =>
  fa 4 a1 (fun t14 w =>
  st 1 t14 t13 (fun w =>
  sm [(a0, a0), (a1, a1)] [] [] (r1 [] w)) w) w) w) w) w) w) w) (fun ch w => R (.panicked ch) w) w) w) w) w)) (fun ch w => R (.panicked ch) w) w) w)
  (fa 4 a1 (fun t15 w =>
  ld t15 (fun t16 w =>
  lnL t16 (fun t17 w =>
  fa 3 a1 (fun t18 w =>
  st 1 t18 t17 (fun w =>
  fa 3 a1 (fun t19 w =>
  ld t19 (fun t20 w =>
  bI .gtr .i64 t20 (Value.int IntKind.i64 0) (fun t21 w =>
  cnd t21
  (ld a0 (fun t23 w =>
  cl P F.tree_parser_kind [t23] (fun t24 w =>
  bI .neq .i64 t24 (Value.int IntKind.i64 11) (fun t25 w =>
  cnd t25
  (ld a0 (fun t27 w =>
  cl P F.tree_parser_need [t27, (Value.int IntKind.i64 12)] (fun t28 w =>
  ld a0 (fun t29 w =>
  cl P F.tree_parser_body [t29, a1, (Value.int IntKind.i64 11)] (fun t30 w =>
  ld a0 (fun t31 w =>
  cl P F.tree_parser_take [t31] (fun t32 w =>
  R (.returned (.tuple #[])) w) (fun ch w => R (.panicked ch) w) w) w) (fun ch w => R (.panicked ch) w) w) w) (fun ch w => R (.panicked ch) w) w) w)
  (ld a0 (fun t29 w =>
  cl P F.tree_parser_body [t29, a1, (Value.int IntKind.i64 11)] (fun t30 w =>
  ld a0 (fun t31 w =>
  cl P F.tree_parser_take [t31] (fun t32 w =>
  R (.returned (.tuple #[])) w) (fun ch w => R (.panicked ch) w) w) w) (fun ch w => R (.panicked ch) w) w) w)) w) (fun ch w => R (.panicked ch) w) w) w)
  (ld a0 (fun t29 w =>
  cl P F.tree_parser_body [t29, a1, (Value.int IntKind.i64 11)] (fun t30 w =>
  ld a0 (fun t31 w =>
  cl P F.tree_parser_take [t31] (fun t32 w =>
  R (.returned (.tuple #[])) w) (fun ch w => R (.panicked ch) w) w) w) (fun ch w => R (.panicked ch) w) w) w)) w) w) w) w) w) w) w) w)) w) (fun ch w => R (.panicked ch) w) w) w) w
theorem e_tree_parser_block_1 (R : Ending → World → Prop) (a0 a1 : Value) (w : World) : vcFn P tab 4000 Tryz.f210.ntmps (Tryz.f210.body.getD .skip) Tryz.f210.results.toList [a0, a1] R w = d_tree_parser_block_1 R a0 a1 w := by kernel_rfl
theorem t_tree_parser_block_1 (R : Ending → World → Prop) (a0 a1 : Value) (w : World) (h : d_tree_parser_block_1 R a0 a1 w) : Tr P F.tree_parser_block_1 [a0, a1] w R :=
  fn_ok (fn := Tryz.f210) (c := Tryz.f210.body.getD .skip) (fuel := 4000) mixed tab_ok Tryz.func210 (by kernel_rfl) (by kernel_rfl) (Nat.le_of_ble_eq_true (by kernel_rfl)) (Eq.mpr (e_tree_parser_block_1 R a0 a1 w) h)
end Go.Vx
namespace Go.Vx
open Go Go.Proofs

theorem wrap64_nat {a b : Nat} (h : a + b ≤ 9223372036854775807) : IntKind.i64.wrap ((a : Int) + (b : Int)) = ((a + b : Nat) : Int) := by
  rw [wrap64_of (by omega) (by omega)]; simp
theorem wrap64_succ {a : Nat} (h : a < 9223372036854775807) : IntKind.i64.wrap ((a : Int) + 1) = ((a + 1 : Nat) : Int) := by
  rw [wrap64_of (by omega) (by omega)]; simp
theorem wrap64_two {a : Nat} (h : a < 9223372036854775806) : IntKind.i64.wrap ((a : Int) + 2) = ((a + 2 : Nat) : Int) := by
  rw [wrap64_of (by omega) (by omega)]; simp
theorem wrap64_sub {a b : Nat} (h : b ≤ a) (h2 : a ≤ 9223372036854775807) : IntKind.i64.wrap ((a : Int) - (b : Int)) = ((a - b : Nat) : Int) := by
  rw [wrap64_of (by omega) (by omega)]; omega

theorem wrap_u8 (c : UInt8) : IntKind.u8.wrap ((c.toNat : Nat) : Int) = ((c.toNat : Nat) : Int) := by
  have := c.toNat_lt
  show ((c.toNat : Nat) : Int) % 256 = _
  omega

theorem u8_all {p : UInt8 → Bool} (h : (List.range 256).all (fun n => p (UInt8.ofNat n)) = true) (c : UInt8) : p c = true := by
  rw [List.all_eq_true] at h
  have := h c.toNat (by simp; exact c.toNat_lt)
  simpa using this

theorem byt_eq (a b : UInt8) : decide ((a.toNat : Int) = (b.toNat : Int)) = (a == b) := by
  rw [Bool.eq_iff_iff]
  simp only [decide_eq_true_eq, beq_iff_eq, UInt8.toNat_inj, Int.natCast_inj]

/-- Bytes are the same. -/
theorem B1 :
    (∀ (a : UInt8) (m : Nat) (K : Value → World → Prop) (w : World), bI .eql .u8 (byt a) (.int .u8 (OfNat.ofNat m)) K w = K (.bool (decide ((a.toNat : Int) = OfNat.ofNat m))) w) := by
  intros; exact bI_eql _ _ _

theorem letter_fact (c : UInt8) : (if 97 ≤ bitsI .or .u8 (c.toNat : Int) 32 then decide (bitsI .or .u8 (c.toNat : Int) 32 ≤ 122) else false) = letterB c := by
  have := u8_all (p := fun c => (if 97 ≤ bitsI .or .u8 (c.toNat : Int) 32 then decide (bitsI .or .u8 (c.toNat : Int) 32 ≤ 122) else false) == letterB c) (by kernel_rfl) c
  simpa using this

variable {R : Ending → World → Prop} {g : G} {w : World} {H : Hp}

theorem c_letter {c : UInt8} (hR : R (.returned (.bool (letterB c))) w) : Tr P F.lex_letter [byt c] w R := by
  apply t_lex_letter
  unfold d_lex_letter
  simp only [↓E1, ↓C1]
  rw [← letter_fact] at hR
  constructor
  · intro h; rw [if_pos h] at hR; exact hR
  · intro h; rw [if_neg h] at hR; exact hR

theorem digit_fact (c : UInt8) : (if (48 : Int) ≤ c.toNat then decide ((c.toNat : Int) ≤ 57) else false) = digitB c := by
  have := u8_all (p := fun c => (if (48 : Int) ≤ c.toNat then decide ((c.toNat : Int) ≤ 57) else false) == digitB c) (by kernel_rfl) c
  simpa using this
theorem c_digit {c : UInt8} (hR : R (.returned (.bool (digitB c))) w) : Tr P F.lex_digit [byt c] w R := by
  apply t_lex_digit
  unfold d_lex_digit
  simp only [↓E1, ↓C1]
  rw [← digit_fact] at hR
  constructor
  · intro h; rw [if_pos h] at hR; exact hR
  · intro h; rw [if_neg h] at hR; exact hR

/-! ### Where a byte stands -/
theorem idxGo_some {c : UInt8} : ∀ {l : List UInt8} {i k : Nat}, idxGo c l i = some k → i ≤ k ∧ k < i + l.length := by
  intro l
  induction l with
  | nil => intro i k h; simp [idxGo] at h
  | cons x l ih =>
    intro i k h
    simp only [idxGo] at h
    cases hx : (x == c)
    · rw [hx] at h
      have := ih h
      simp only [List.length_cons]
      omega
    · rw [hx] at h
      simp at h
      simp only [List.length_cons]
      omega

def idxI (o : Option Nat) : Int := match o with | some k => (k : Int) | none => -1

theorem c_place {c : UInt8} {l : List UInt8} (hl : ∀ x ∈ l, x.toNat < 128) (hS : Sat g w H) (hR : ∀ w', Sat g w' H → R (.returned (i64 (idxI (idx c l)))) w') :
    Tr P F.lex_place [byt c, str l] w R := by
  apply t_lex_place
  unfold d_lex_place
  apply hS.rgS
  intro b w' h
  refine lp1 (fun m x w => ∃ k, k ≤ l.length ∧ m = l.length - k ∧ idxGo c (l.drop k) k = idx c l ∧ Sat g w ((b, .stringIter ⟨l.toArray⟩ k) :: H)) l.length ⟨0, by omega, by omega, by simp [idx], h⟩ ?_
  rintro m x w1 ⟨k, hk, rfl, hi, h1⟩
  refine h1.nxS ?_ ?_
  · intro hlt w2 h2
    have hlt' : k < l.length := hlt
    have hget : (⟨l.toArray⟩ : ByteArray)[k]'hlt = l[k] := rfl
    have hdec := decode_ascii ⟨l.toArray⟩ k hlt (by rw [hget]; exact hl _ (List.getElem_mem hlt'))
    rw [hget] at hdec
    rw [hdec] at h2 ⊢
    have hwr : IntKind.u8.wrap ((l[k].toNat : Nat) : Int) = ((l[k].toNat : Nat) : Int) := by
      exact wrap_u8 _
    have hcons : l.drop k = l[k] :: l.drop (k + 1) := List.drop_eq_getElem_cons hlt'
    rw [hcons] at hi
    simp only [idxGo] at hi
    simp only [↓E1, ↓E2, ↓E3, hwr, byt_eq]
    rw [cnd_eq]
    constructor
    · intro he
      rw [he] at hi
      simp only [cond_true] at hi
      have := hR _ h2.tail
      rw [← hi] at this
      exact this
    · intro he
      rw [he] at hi
      exact ⟨l.length - (k + 1), by omega, x, rfl, k + 1, by omega, rfl, hi, h2⟩
  · intro hge
    have : k = l.length := by
      have : l.length ≤ k := hge
      omega
    subst this
    simp only [List.drop_length, idxGo] at hi
    simp only [↓E1, ↓E2, ↓E3]
    have := hR _ h1.tail
    rw [← hi] at this
    exact this

/-- A function value that tells of each byte whether it is so, and changes nothing that counts. -/
def PredV (f : Value) (p : UInt8 → Bool) : Prop :=
  ∃ k cap, f = .func (.func k) #[] cap ∧ ∀ (c : UInt8) (g : G) (H : Hp) (w : World) (R : Ending → World → Prop), Sat g w H → (∀ w', Sat g w' H → R (.returned (.bool (p c))) w') → Tr P k ([byt c] ++ cap.toList) w R

theorem p_letter : PredV (.func (.func F.lex_letter) #[] #[]) letterB := ⟨_, _, rfl, fun c g H w R h hR => c_letter (hR _ h)⟩
theorem p_digit : PredV (.func (.func F.lex_digit) #[] #[]) digitB := ⟨_, _, rfl, fun c g H w R h hR => c_digit (hR _ h)⟩
theorem p_id : PredV (.func (.func F.lex_reader_name_1) #[] #[]) idB := by
  refine ⟨_, _, rfl, fun c g H w R h hR => ?_⟩
  apply t_lex_reader_name_1
  unfold d_lex_reader_name_1
  have hR' := hR _ h
  apply c_letter
  simp only [idB] at hR'
  cases hl : letterB c
  · simp only [↓E1, ↓E2, ↓E3]
    apply c_digit
    cases hd : digitB c
    · simp only [↓E1, ↓E2, ↓E3]
      rw [hl, hd] at hR'
      have e : (95 : Int) = ((95 : UInt8).toNat : Int) := rfl
      rw [e, byt_eq]
      exact hR'
    · simp only [↓E1, ↓E2, ↓E3]
      simpa [hl, hd] using hR'
  · simp only [↓E1, ↓E2, ↓E3]
    simpa [hl] using hR'

theorem idxI_ge (o : Option Nat) : decide (0 ≤ idxI o) = o.isSome := by
  cases o <;> simp [idxI]

theorem sign_ascii : ∀ x ∈ signL, x.toNat < 128 := by decide
theorem blank_ascii : ∀ x ∈ blankL, x.toNat < 128 := by decide
theorem single_ascii : ∀ x ∈ singleL, x.toNat < 128 := by decide

theorem p_sign : PredV (.func (.func F.lex_reader_sign_1) #[] #[]) signB := by
  refine ⟨_, _, rfl, fun c g H w R h hR => ?_⟩
  apply t_lex_reader_sign_1
  unfold d_lex_reader_sign_1
  refine c_place (l := signL) sign_ascii h fun w' h' => ?_
  simp only [↓E1, ↓E2, ↓E3, idxI_ge]
  exact hR _ h'
theorem p_blank : PredV (.func (.func F.lex_Read_1) #[] #[]) blankB := by
  refine ⟨_, _, rfl, fun c g H w R h hR => ?_⟩
  apply t_lex_Read_1
  unfold d_lex_Read_1
  refine c_place (l := blankL) blank_ascii h fun w' h' => ?_
  simp only [↓E1, ↓E2, ↓E3, idxI_ge]
  exact hR _ h'

/-! ### The reader -/
/-- A reader's block. -/
abbrev rdr (s : List UInt8) (i : Nat) : Obj := .cells [str s, i64 (i : Int)].toArray 132

/-- A source that is not too long. -/
def Short (s : List UInt8) : Prop := s.length ≤ 70368744177664

theorem c_peek {r : Nat} {s : List UInt8} {i k : Nat} (hS : Sat g w ((r, rdr s i) :: H)) (hk : i + k ≤ 9223372036854775807)
    (hR : ∀ w', Sat g w' ((r, rdr s i) :: H) → R (.returned (byt (peekS s (i + k)))) w') : Tr P F.lex_reader_peek [ptr r 0, i64 (k : Int)] w R := by
  apply t_lex_reader_peek
  unfold d_lex_reader_peek
  have h1 := hS.drew
  have h2 := h1.drew
  simp only [↓E1, ↓E2, ↓E3, ↓C1, ↓h1.ld0, ↓h2.ld0, Nat.reduceAdd, Nat.reduceLT, wrap64_nat hk]
  constructor
  · intro h
    refine ⟨by omega, peekS s (i + k), ?_, hR _ h2⟩
    have : i + k < s.length := by omega
    rw [show ((↑(i + k) : Int)).toNat = i + k from by omega]
    simp [peekS, this]
  · intro h
    have h3 : ¬ i + k < s.length := by omega
    have h4 : peekS s (i + k) = 0 := by simp [peekS, h3, List.getD_eq_getElem?_getD]
    have := hR _ h1
    rw [h4] at this
    exact this

theorem c_more {r : Nat} {s : List UInt8} {i : Nat} {f : Value} {p : UInt8 → Bool} (hS : Sat g w ((r, rdr s i) :: H)) (hf : PredV f p)
    (hR : ∀ w', Sat g w' ((r, rdr s i) :: H) → R (.returned (.bool (isAt p s i))) w') : Tr P F.lex_reader_more [ptr r 0, f] w R := by
  obtain ⟨k, cap, rfl, hf⟩ := hf
  apply t_lex_reader_more
  unfold d_lex_reader_more
  have hw := hS.drew
  simp only [↓E1, ↓E2, ↓E3, ↓C1, ↓hw.ld0, Nat.reduceAdd, Nat.reduceLT]
  constructor
  · intro hi
    obtain ⟨c, hc⟩ : ∃ c, s[i]? = some c := ⟨s[i]'(by omega), List.getElem?_eq_getElem (by omega)⟩
    refine ⟨by omega, c, by simpa using hc, ?_⟩
    refine hf c g _ _ _ hw fun w' h' => ?_
    simp only [↓E3]
    simpa [isAt, hc] using hR _ h'
  · intro hi
    have hc : s[i]? = none := List.getElem?_eq_none (by omega)
    simpa [isAt, hc] using hR _ hw

theorem skip_yes {p : UInt8 → Bool} {s : List UInt8} {i : Nat} (h : isAt p s i = true) : skipS p s i = skipS p s (i + 1) ∧ i < s.length := by
  unfold isAt at h
  cases hc : s[i]? with
  | none => rw [hc] at h; simp at h
  | some c =>
    rw [hc] at h
    obtain ⟨hlt, he⟩ := List.getElem?_eq_some_iff.1 hc
    refine ⟨?_, hlt⟩
    unfold skipS
    rw [List.drop_eq_getElem_cons hlt, he]
    simp only [Option.elim] at h
    simp only [scan, h, cond_true]
    omega
theorem skip_no {p : UInt8 → Bool} {s : List UInt8} {i : Nat} (h : isAt p s i = false) : skipS p s i = i := by
  unfold skipS
  unfold isAt at h
  cases hc : s[i]? with
  | none => rw [List.drop_eq_nil_of_le (by simpa using hc)]; rfl
  | some c =>
    rw [hc] at h
    obtain ⟨hlt, he⟩ := List.getElem?_eq_some_iff.1 hc
    rw [List.drop_eq_getElem_cons hlt, he]
    simp only [Option.elim] at h
    simp only [scan, h, cond_false, Nat.add_zero]
theorem skip_le {p : UInt8 → Bool} {s : List UInt8} {i : Nat} (h : i ≤ s.length) : i ≤ skipS p s i ∧ skipS p s i ≤ s.length := by
  have key : ∀ l : List UInt8, scan p l ≤ l.length := by
    intro l
    induction l with
    | nil => simp [scan]
    | cons c l ih => simp only [scan]; cases p c <;> simp <;> omega
  have := key (s.drop i)
  rw [List.length_drop] at this
  unfold skipS
  omega

theorem c_skip {r : Nat} {s : List UInt8} {i : Nat} {f : Value} {p : UInt8 → Bool} (hs : Short s) (hi : i ≤ s.length) (hS : Sat g w ((r, rdr s i) :: H)) (hf : PredV f p)
    (hR : ∀ w', Sat g w' ((r, rdr s (skipS p s i)) :: H) → R (.returned (.tuple #[])) w') : Tr P F.lex_reader_skip [ptr r 0, f] w R := by
  apply t_lex_reader_skip
  unfold d_lex_reader_skip
  unfold Short at hs
  refine lp0 (fun m w => ∃ j, j ≤ s.length ∧ m = s.length - j ∧ skipS p s j = skipS p s i ∧ Sat g w ((r, rdr s j) :: H)) rfl (s.length - i) ⟨i, hi, rfl, rfl, hS⟩ ?_
  rintro m w1 ⟨j, hj, rfl, he, h1⟩
  refine c_more h1 hf fun w2 h2 => ?_
  cases hc : isAt p s j
  · rw [skip_no hc] at he
    simp only [↓E1, ↓E2, ↓E3]
    rw [← he] at hR
    exact hR _ h2
  · obtain ⟨hy, hlt⟩ := skip_yes hc
    simp only [↓E1, ↓E2, ↓E3, ↓h2.ld0, Nat.reduceAdd, Nat.reduceLT]
    rw [wrap64_succ (by omega)]
    refine h2.st rfl (by simp) rfl fun w3 h3 => ?_
    exact ⟨s.length - (j + 1), by omega, trivial, j + 1, by omega, rfl, by rw [← hy, he], h3⟩

theorem c_name {r : Nat} {s : List UInt8} {i : Nat} (hs : Short s) (hi : i ≤ s.length) (hS : Sat g w ((r, rdr s i) :: H))
    (hR : ∀ w', Sat g w' ((r, rdr s (nameS s i).2) :: H) → R (.returned (.bool (nameS s i).1)) w') : Tr P F.lex_reader_name [ptr r 0] w R := by
  apply t_lex_reader_name
  unfold d_lex_reader_name
  refine c_more hS p_letter fun w1 h1 => ?_
  unfold nameS at hR
  cases hc : isAt letterB s i
  · rw [hc] at hR
    simp only [↓E1, ↓E2, ↓E3, Bool.not_false]
    exact hR _ h1
  · rw [hc] at hR
    simp only [↓E1, ↓E2, ↓E3, Bool.not_true]
    refine c_skip hs hi h1 p_id fun w2 h2 => ?_
    simp only [↓E3]
    exact hR _ h2

theorem name_le {s : List UInt8} {i : Nat} (hi : i ≤ s.length) : i ≤ (nameS s i).2 ∧ (nameS s i).2 ≤ s.length := by
  unfold nameS
  cases isAt letterB s i
  · exact ⟨Nat.le_refl _, hi⟩
  · exact skip_le hi

theorem c_colon {r : Nat} {s : List UInt8} {i : Nat} (hs : Short s) (hi : i ≤ s.length) (hS : Sat g w ((r, rdr s i) :: H))
    (hR : ∀ w', Sat g w' ((r, rdr s i) :: H) → R (.returned (.bool (colonS s i))) w') : Tr P F.lex_reader_colon [ptr r 0] w R := by
  apply t_lex_reader_colon
  unfold d_lex_reader_colon
  unfold Short at hs
  refine c_peek (k := 0) hS (by omega) fun w1 h1 => ?_
  have e : (58 : Int) = ((58 : UInt8).toNat : Int) := rfl
  simp only [↓E1, ↓E2, ↓E3]
  rw [e, byt_eq]
  simp only [colonS] at hR
  rw [Nat.add_zero]
  cases hc : (peekS s i == 58)
  · rw [hc] at hR
    simp only [↓E3]
    exact hR _ h1
  · rw [hc] at hR
    simp only [↓E3]
    refine c_peek (k := 1) h1 (by omega) fun w2 h2 => ?_
    have e : (61 : Int) = ((61 : UInt8).toNat : Int) := rfl
    simp only [↓E1, ↓E2, ↓E3]
    rw [e, byt_eq]
    exact hR _ h2

theorem isAt_lt {p : UInt8 → Bool} {s : List UInt8} {i : Nat} (h : isAt p s i = true) : i < s.length := (skip_yes h).2

theorem c_sign {r : Nat} {s : List UInt8} {i : Nat} (hs : Short s) (hi : i ≤ s.length) (hS : Sat g w ((r, rdr s i) :: H))
    (hR : ∀ w', Sat g w' ((r, rdr s (signS s i)) :: H) → R (.returned (.bool (Nat.blt i (signS s i)))) w') : Tr P F.lex_reader_sign [ptr r 0] w R := by
  apply t_lex_reader_sign
  unfold d_lex_reader_sign
  unfold Short at hs
  simp only [↓E1, ↓E2, ↓E3, ↓hS.ld0, Nat.reduceAdd, Nat.reduceLT, ↓jn_eq]
  refine lp0 (fun m w => ∃ j, i ≤ j ∧ j ≤ i + 2 ∧ j ≤ s.length ∧ m = i + 2 - j ∧ (j = i ∨ (j = i + 1 ∧ isAt signB s i = true) ∨ (j = i + 2 ∧ isAt signB s i = true ∧ isAt signB s (i + 1) = true)) ∧ Sat g w ((r, rdr s j) :: H)) rfl 2 ⟨i, by omega, by omega, hi, by omega, .inl rfl, hS⟩ ?_
  rintro m w1 ⟨j, h0, h2, hj, rfl, hcase, h1⟩
  have fin : ∀ (w1 : World) (h1 : Sat g w1 ((r, rdr s j) :: H)), (j = i + 2 ∨ isAt signB s j = false) → R (.returned (.bool (decide ((i : Int) < (j : Int))))) w1 := by
    intro w1 h1 hno
    have he : signS s i = j := by
      unfold signS
      rcases hcase with rfl | ⟨rfl, hc⟩ | ⟨rfl, hc, hc2⟩
      · rcases hno with h | h
        · omega
        · rw [h]; rfl
      · rcases hno with h | h
        · omega
        · rw [hc, h]; rfl
      · rw [hc, hc2]; rfl
    rw [he] at hR
    have := hR _ h1
    have e : Nat.blt i j = decide ((i : Int) < (j : Int)) := by
      rw [Bool.eq_iff_iff]; simp [Nat.blt_eq]
    rw [e] at this
    exact this
  simp only [↓E1, ↓E2, ↓E3, ↓C1, ↓h1.ld0, Nat.reduceAdd, Nat.reduceLT]
  rw [wrap64_two (by omega)]
  constructor
  · intro hlt
    refine c_more h1 p_sign fun w2 h2 => ?_
    cases hc : isAt signB s j
    · simp only [↓E1, ↓E2, ↓E3, ↓C1, ↓h2.ld0, Nat.reduceAdd, Nat.reduceLT]
      exact fin _ h2 (.inr hc)
    · have hlt2 := isAt_lt hc
      simp only [↓E1, ↓E2, ↓E3, ↓C1, ↓h2.ld0, Nat.reduceAdd, Nat.reduceLT]
      rw [wrap64_succ (by omega)]
      refine h2.st rfl (by simp) rfl fun w3 h3 => ?_
      refine ⟨i + 2 - (j + 1), by omega, trivial, j + 1, by omega, by omega, by omega, rfl, ?_, h3⟩
      rcases hcase with rfl | ⟨rfl, h4⟩ | ⟨rfl, _⟩
      · exact .inr (.inl ⟨rfl, hc⟩)
      · exact .inr (.inr ⟨rfl, h4, hc⟩)
      · omega
  · intro hge
    exact fin _ h1 (.inl (by omega))
end Go.Vx
namespace Go.Vx
open Go Go.Proofs
variable {R : Ending → World → Prop} {g : G} {w : World} {H hp : Hp}

/-- A function that the model answers by itself. -/
theorem tr_extern {P : Program} {f : FuncId} {fn : Func} {e : Array Value → Sem Value} {args : List Value} {w : World} {R : Ending → World → Prop} (hf : P.funcs[f]? = some fn) (hname : (fn.name == "runtime.NumGoroutine") = false)
    (hb : fn.body.isNone = true) (hn : Extern.findNext fn = none) (he : Extern.find fn = some e) {v : Value} {w' : World} (hr : (e args.toArray).run P w = .ok v w') (hR : R (.returned v) w') : Tr P f args w R :=
  .inr ⟨v, w', by rw [run_callFunc_extern hf hname hb hn he, hr]; rfl, hR⟩

theorem c_noEscape {x : Value} (hR : R (.returned x) w) : Tr P F.internal_abi_NoEscape [x] w R :=
  tr_extern (e := Extern.AbiNoEscape.same) Tryz.func181 (by kernel_rfl) (by kernel_rfl) (by kernel_rfl) (by kernel_rfl) (Lib.run_noEscape (P := P) w x) hR

theorem run_neq_self {P : Program} {tp te : TypeId} {j : TypeInfo} (a : Addr) (ox oy : Operand) (hp : P.underlying tp = some (.pointer te)) (hte : P.info? te = some j) (w : World) :
    (eqRun .neq tp ox oy (.pointer (some a)) (.pointer (some a))).run P w = .ok (.bool false) w := by
  unfold eqRun
  simp only [Sem.run_bind]
  rw [eqGuard_plain (P := P) .neq tp ox oy (.pointer (some a)) (.pointer (some a)) w (by intro a c ⟨e, _⟩; simp at e) (by rintro ⟨e, _⟩; simp at e)]
  exact Lib.run_neq_ptr_same (P := P) w a hp hte

/-- What 'addr' holds. -/
def Adr (b : Nat) (p : Value) : Prop := p = .pointer none ∨ p = ptr b 0

abbrev bldT (ty : TypeId) (p v : Value) : Obj := .cells [p, v].toArray ty
abbrev bld (p v : Value) : Obj := bldT Ty.strings_Builder p v
/-- A variable of a type begins with a builder. -/
def Fits (ty : TypeId) : Prop := liesAt P P.depth ty (2 / P.cellsOf ty) 0 189 1 = true
theorem fits_builder : Fits Ty.strings_Builder := by unfold Fits; kernel_rfl
theorem fits_writer : Fits Ty.tree_writer := by unfold Fits; kernel_rfl

theorem under_ty {t : Nat} {d : TypeDesc} (h : P.underlying t = some d) : P.underlying t = some d := h

theorem gc_copyCheck {ty : TypeId} (hty : Fits ty) {b : Nat} {p v : Value} (hS : Sat g w ((b, bldT ty p v) :: H)) (hp : Adr b p)
    (hR : ∀ w', Sat g w' ((b, bldT ty (ptr b 0) v) :: H) → R (.returned (.tuple #[])) w') : Tr P F.strings_Builder_copyCheck [ptr b 0] w R := by
  apply t_strings_Builder_copyCheck
  unfold d_strings_Builder_copyCheck
  obtain ⟨j, hj, hj1, _⟩ := ty189_ok.info
  rcases hp with rfl | rfl
  · simp only [↓E1, ↓E2, ↓E3, ↓hS.ld0, Nat.reduceAdd, Nat.reduceLT, ↓bNn_eql]
    have hsh : w.shape? b = some (ty, 2) := by simp [World.shape?, hS.block (b := b) (o := bldT ty (.pointer none) v) (by simp)]
    refine ⟨_, _, Lib.run_to_unsafe w ⟨b, 0, none⟩ (t := 189) Tryz.underlying187 Tryz.underlying245 hj (by rw [hj1]; decide) hsh (by simp), ?_⟩
    apply c_noEscape
    simp only [↓E1, ↓E2, ↓E3]
    refine ⟨_, _, Lib.run_from_unsafe w ⟨b, 0, none⟩ (u := 189) Tryz.underlying245 Tryz.underlying187 hj hsh ?_, ?_⟩
    · exact hty
    · simp only [↓E1, ↓E2, ↓E3]
      refine hS.st rfl (by simp) rfl fun w3 h3 => ?_
      exact hR _ h3
  · simp only [↓E1, ↓E2, ↓E3, ↓hS.ld0, Nat.reduceAdd, Nat.reduceLT, ↓bNp_eql]
    refine ⟨.bool false, fun w' => run_neq_self ⟨b, 0, none⟩ _ _ Tryz.underlying187 hj w', ?_⟩
    simp only [↓E1, ↓E2, ↓E3]
    exact hR _ hS

theorem c_copyCheck {b : Nat} {p v : Value} (hS : Sat g w ((b, bld p v) :: H)) (hp : Adr b p)
    (hR : ∀ w', Sat g w' ((b, bld (ptr b 0) v) :: H) → R (.returned (.tuple #[])) w') : Tr P F.strings_Builder_copyCheck [ptr b 0] w R :=
  gc_copyCheck fits_builder hS hp hR

/-- The bytes as cells. -/
abbrev bcs (l : List UInt8) : List Value := l.map byt

theorem allOne_byt (l : List UInt8) : allOne (bcs l) = true := by
  induction l with
  | nil => rfl
  | cons c l ih => simpa [allOne, one] using ih

theorem gc_WriteByte {ty : TypeId} (hty : Fits ty) {b n : Nat} {p v : Value} {l : List UInt8} {c : UInt8} (hS : Sat g w ((b, bldT ty p v) :: (hp ++ H))) (hp' : Adr b p) (hg : Grow Ty.uint8 1 v n (bcs l) hp) (hn : n + 1 ≤ 140737488355328)
    (hR : ∀ v' hp' w', Grow Ty.uint8 1 v' (n + 1) (bcs (l ++ [c])) hp' → Sat g w' ((b, bldT ty (ptr b 0) v') :: (hp' ++ H)) → R (.returned .nilIface) w') : Tr P F.strings_Builder_WriteByte [ptr b 0, byt c] w R := by
  apply t_strings_Builder_WriteByte
  unfold d_strings_Builder_WriteByte
  refine gc_copyCheck hty hS hp' fun w1 h1 => ?_
  simp only [↓E1, ↓E2, ↓E3, ↓h1.ld0, Nat.reduceAdd, Nat.reduceLT]
  refine h1.bs (cs := [byt c]) rfl fun b2 w2 h2 => ?_
  have h3 : Sat g w2 ((b2, .cells [byt c].toArray 5) :: (hp ++ ((b, bldT ty (ptr b 0) v) :: H))) := h2.perm (.cons _ List.perm_middle.symm)
  refine Sat.ap1 (m := 1) (c := 1) h3 hg rfl rfl rfl (by omega) (by omega) fun v' hp2 w4 hg4 h4 => ?_
  have h5 : Sat g w4 ((b, bldT ty (ptr b 0) v) :: (hp2 ++ H)) := h4.perm List.perm_middle
  refine h5.st (by cases hg4; rfl) (by simp) (by cases hg4; rfl) fun w6 h6 => ?_
  refine hR v' hp2 w6 (by simpa [bcs] using hg4) ?_
  have e : wr [ptr b 0, v].toArray 1 v'.cells.toList = [ptr b 0, v'].toArray := by cases hg4; rfl
  rw [e] at h6
  exact h6
theorem c_WriteByte {b n : Nat} {p v : Value} {l : List UInt8} {c : UInt8} (hS : Sat g w ((b, bld p v) :: (hp ++ H))) (hp' : Adr b p) (hg : Grow Ty.uint8 1 v n (bcs l) hp) (hn : n + 1 ≤ 140737488355328)
    (hR : ∀ v' hp' w', Grow Ty.uint8 1 v' (n + 1) (bcs (l ++ [c])) hp' → Sat g w' ((b, bld (ptr b 0) v') :: (hp' ++ H)) → R (.returned .nilIface) w') : Tr P F.strings_Builder_WriteByte [ptr b 0, byt c] w R :=
  gc_WriteByte fits_builder hS hp' hg hn hR

theorem c_BLen {b n : Nat} {p v : Value} {l : List UInt8} (hS : Sat g w ((b, bld p v) :: H)) (hv : ∃ a c, v = .slice a n c) (hR : ∀ w', Sat g w' ((b, bld p v) :: H) → R (.returned (i64 (n : Int))) w') :
    Tr P F.strings_Builder_Len [ptr b 0] w R := by
  apply t_strings_Builder_Len
  unfold d_strings_Builder_Len
  obtain ⟨a, c, rfl⟩ := hv
  simp only [↓E1, ↓E2, ↓E3, ↓hS.ld0, Nat.reduceAdd, Nat.reduceLT]
  exact hR _ hS

theorem Grow.slice {e : TypeId} {sz n : Nat} {v : Value} {cs : List Value} (h : Grow e sz v n cs hp) : ∃ a c, v = .slice a n c := by
  rcases h.inv with ⟨h1, rfl, _⟩ | ⟨_, _, _, h1, _⟩ <;> exact ⟨_, _, h1⟩

theorem cells_byte : P.cellsOf 5 = 1 := by kernel_rfl

theorem gc_BString {ty : TypeId} {b n : Nat} {p v : Value} {l : List UInt8} (hS : Sat g w ((b, bldT ty p v) :: (hp ++ H))) (hg : Grow Ty.uint8 1 v n (bcs l) hp) (hn : n ≤ 9223372036854775807)
    (hR : ∀ w', Sat g w' ((b, bldT ty p v) :: H) → R (.returned (str l)) w') : Tr P F.strings_Builder_String [ptr b 0] w R := by
  apply t_strings_Builder_String
  unfold d_strings_Builder_String
  have h1 := hS.drew
  obtain ⟨a, c, rfl⟩ := hg.slice
  simp only [↓E1, ↓E2, ↓E3, ↓h1.ld0, Nat.reduceAdd, Nat.reduceLT]
  have hsub : ∀ w', Sat g w' ((b, bldT ty p (.slice a n c)) :: (hp ++ H)) → Sat g w' ((b, bldT ty p (.slice a n c)) :: H) := fun w' h =>
    Sat.drop (A := hp) (h.perm List.perm_middle.symm)
  have hln := hg.len
  have h0 : n = 0 → l = [] := by
    intro h
    subst h
    have : (bcs l).length = 0 := by simpa using hln
    exact List.eq_nil_of_length_eq_zero (by simpa using this)
  have hln' : l.length = n := by simpa using hln
  rcases hg.inv with ⟨he, rfl, _, rfl⟩ | ⟨b2, c2, ex, he, h2, h3, h4, h5, rfl⟩
  · injection he with e1 e2 e3
    subst e1 e3
    refine ⟨_, _, Lib.run_unsafeSliceData_nil _ _ _ 0 0, h1.rk (t := ty) (fr := (0, 0)) (c := [p, .slice none 0 0]) (by simp) rfl ?_⟩
    refine ⟨_, _, Lib.run_unsafeString_none _ _ _ _ _, ?_⟩
    have := h0 rfl
    subst this
    exact hR _ (hsub _ h1)
  · injection he with e1 e2 e3
    subst e1 e3
    refine ⟨_, _, Lib.run_unsafeSliceData_row _ _ _ _ _ _ (by omega), h1.rk (t := ty) (fr := (0, 0)) (c := [p, .slice (some ⟨b2, 0, none⟩) n c]) (by simp) rfl ?_⟩
    by_cases hz : n = 0
    · have := h0 hz
      subst this hz
      refine ⟨_, _, Lib.run_unsafeString_none _ _ _ _ _, ?_⟩
      exact hR _ (hsub _ h1)
    · have hblk := h1.block (b := b2) (o := .cells (bcs l ++ ex).toArray Ty.uint8) (by simp)
      have hsh : w.drew.shape? b2 = some (5, (bcs l ++ ex).length) := by simp [World.shape?, hblk]
      have hrun := Lib.run_unsafeString_row (P := P) w.drew 224 3 9 5 Tryz.underlying224 cells_byte b2 _ hsh l (by intro e; subst e; simp at hln'; omega) (by simp) (by omega) (fun j x hx => by
        rw [add_plain, Nat.zero_add]
        refine h1.cellH (b := b2) (c := (bcs l ++ ex).toArray) (t := Ty.uint8) (fr := (0, 0)) (by simp) ?_
        have hj := (List.getElem?_eq_some_iff.1 hx).1
        simp only [List.getElem?_toArray]
        rw [List.getElem?_append_left (by simpa using hj)]
        simp [hx])
      rw [hln'] at hrun
      refine ⟨_, _, hrun, ?_⟩
      obtain ⟨fr', hfr⟩ := freeze_blk (w := w.drew) (o := 0) (k := n) hblk
      rw [hfr]
      have h6 : Sat g w.drew ((b2, .cells (bcs l ++ ex).toArray Ty.uint8) :: ((b, bldT ty p (.slice (some ⟨b2, 0, none⟩) n c)) :: H)) := h1.perm (List.Perm.swap _ _ _)
      exact hR _ h6.set.tail

theorem c_BString {b n : Nat} {p v : Value} {l : List UInt8} (hS : Sat g w ((b, bld p v) :: (hp ++ H))) (hg : Grow Ty.uint8 1 v n (bcs l) hp) (hn : n ≤ 9223372036854775807)
    (hR : ∀ w', Sat g w' ((b, bld p v) :: H) → R (.returned (str l)) w') : Tr P F.strings_Builder_String [ptr b 0] w R :=
  gc_BString hS hg hn hR

/-- A text is written. -/
theorem gc_WriteString {ty : TypeId} (hty : Fits ty) {b n : Nat} {p v : Value} {l t : List UInt8} (hS : Sat g w ((b, bldT ty p v) :: (hp ++ H))) (hp' : Adr b p) (hg : Grow Ty.uint8 1 v n (bcs l) hp) (hn : n + t.length ≤ 140737488355328)
    (hR : ∀ v' hp' w', Grow Ty.uint8 1 v' (n + t.length) (bcs (l ++ t)) hp' → Sat g w' ((b, bldT ty (ptr b 0) v') :: (hp' ++ H)) → R (.returned (.tuple #[i64 (t.length : Int), .nilIface])) w') : Tr P F.strings_Builder_WriteString [ptr b 0, str t] w R := by
  apply t_strings_Builder_WriteString
  unfold d_strings_Builder_WriteString
  refine gc_copyCheck hty hS hp' fun w1 h1 => ?_
  simp only [↓E1, ↓E2, ↓E3, ↓h1.ld0, Nat.reduceAdd, Nat.reduceLT]
  have h3 : Sat g w1 (hp ++ ((b, bldT ty (ptr b 0) v) :: H)) := h1.perm List.perm_middle.symm
  refine Sat.ap (m := t.length) (news := bcs t) h3 hg rfl (.inr ⟨t, rfl, rfl, rfl, rfl⟩) (by simp) (allOne_byt t) (by omega) (by omega) fun v' hp2 w4 hg4 h4 => ?_
  have h5 : Sat g w4 ((b, bldT ty (ptr b 0) v) :: (hp2 ++ H)) := h4.perm List.perm_middle
  have hv : ∃ a n c, v' = .slice a n c := by rcases hg4.inv with ⟨h1, _⟩ | ⟨_, _, _, h1, _⟩ <;> exact ⟨_, _, _, h1⟩
  refine h5.st (by obtain ⟨a, n, c, rfl⟩ := hv; rfl) (by simp) (by obtain ⟨a, n, c, rfl⟩ := hv; rfl) fun w6 h6 => ?_
  refine hR v' hp2 w6 (by simpa [bcs] using hg4) ?_
  have e : wr [ptr b 0, v].toArray 1 v'.cells.toList = [ptr b 0, v'].toArray := by obtain ⟨a, n, c, rfl⟩ := hv; rfl
  rw [e] at h6
  exact h6

/-- Where a byte stands. -/
theorem c_liteIndexByte {s : List UInt8} {c : UInt8} (hR : R (.returned (i64 (idxI (idx c s)))) w) : Tr P F.internal_stringslite_IndexByte [str s, byt c] w R := by
  apply t_internal_stringslite_IndexByte
  unfold d_internal_stringslite_IndexByte
  simp only [↓E2]
  refine tr_extern (e := Extern.BytealgIndexByte.indexByte) Tryz.func127 (by kernel_rfl) (by kernel_rfl) (by kernel_rfl) (by kernel_rfl) (run_indexByte_string _ _ _) ?_
  simp only [↓E3]
  have e : firstIdx ⟨s.toArray⟩ ((c.toNat : Int).toNat.toUInt8) = idxI (idx c s) := by
    have hc : ((c.toNat : Int)).toNat.toUInt8 = c := by simp
    rw [hc]
    have hsz : (⟨s.toArray⟩ : ByteArray).size = s.length := rfl
    have key : ∀ (k i : Nat), i + k = s.length → (List.range' i k).find? (fun i => (⟨s.toArray⟩ : ByteArray)[i]! == c) = idxGo c (s.drop i) i := by
      intro k
      induction k with
      | zero => intro i hi; rw [List.drop_eq_nil_of_le (by omega)]; rfl
      | succ k ih =>
        intro i hi
        have hlt : i < s.length := by omega
        rw [List.drop_eq_getElem_cons hlt]
        have hget : (⟨s.toArray⟩ : ByteArray)[i]! = s[i] := by
          rw [getElem!_pos (⟨s.toArray⟩ : ByteArray) i (by rw [hsz]; exact hlt)]
          rfl
        simp only [List.range'_succ, List.find?_cons, idxGo, hget]
        cases (s[i] == c)
        · simp only [cond_false]; exact ih (i + 1) (by omega)
        · rfl
    have := key s.length 0 (by omega)
    unfold firstIdx idx idxI
    rw [hsz, List.range_eq_range', this]
    simp only [List.drop_zero]
    cases idxGo c s 0 <;> rfl
  rw [e]
  exact hR
theorem c_indexByte {s : List UInt8} {c : UInt8} (hR : R (.returned (i64 (idxI (idx c s)))) w) : Tr P F.strings_IndexByte [str s, byt c] w R := by
  apply t_strings_IndexByte
  unfold d_strings_IndexByte
  simp only [↓E2]
  refine c_liteIndexByte ?_
  simp only [↓E3]
  exact hR
end Go.Vx
namespace Go.Vx
open Go Go.Proofs
variable {R : Ending → World → Prop} {g : G} {w : World} {H hp : Hp}

theorem sc_intro {n : Nat} {first : (Nat → List Value → World → Prop) → Prop} {rests : List (Nat × ((Nat → List Value → World → Prop) → Fn n))} (J : Nat → Nat → List Value → World → Prop)
    (h1 : first (fun l vs w' => ∃ m, J m l vs w')) (h2 : ∀ p ∈ rests, ∀ m, allFn n (J m p.1) (p.2 (fun l' vs w' => ∃ m', m' < m ∧ J m' l' vs w'))) : sc n first rests := ⟨J, h1, h2⟩

theorem jnI {n : Nat} {k : Fn n} {b : Fn n → Prop} (h : b k) : jn n k b := h

theorem ble_dec (a : Nat) : decide ((a : Int) ≤ 1024) = Nat.ble a 1024 := by
  rw [Bool.eq_iff_iff]
  simp only [decide_eq_true_eq, Nat.ble_eq]
  omega

theorem e58 : (58 : Int) = ((58 : UInt8).toNat : Int) := rfl
theorem e39 : (39 : Int) = ((39 : UInt8).toNat : Int) := rfl

theorem byt_ne (a b : UInt8) : (!decide ((a.toNat : Int) = (b.toNat : Int))) = (a != b) := by
  rw [byt_eq]; rfl

theorem peek_get {s : List UInt8} {j : Nat} (h : j < s.length) : s[j]? = some (peekS s j) := by
  simp [peekS, h]

theorem c_quoted {r : Nat} {s : List UInt8} {i : Nat} (hs : Short s) (hi : i ≤ s.length) (hS : Sat g w ((r, rdr s i) :: H))
    (hR : ∀ w', Sat g w' ((r, rdr s (quotedS s i).2) :: H) → R (.returned (.tuple #[str (quotedS s i).1.1, .bool (quotedS s i).1.2])) w') : Tr P F.lex_reader_quoted [ptr r 0] w R := by
  apply t_lex_reader_quoted
  unfold d_lex_reader_quoted
  unfold Short at hs
  refine sc_intro (fun m l vs w => (peekS s i == 39) = false ∧ Sat g w ((r, rdr s i) :: H)) ?_ ?_
  · refine hS.al fun b w1 h1 => ?_
    simp only [↓E2]
    refine c_peek (k := 0) h1.swap2 (by omega) fun w2 h2 => ?_
    rw [Nat.add_zero] at *
    simp only [↓E1, ↓E3]
    rw [e39, byt_ne, cnd_eq]
    constructor
    · intro hne
      have hne' : (peekS s i == 39) = false := by simpa using hne
      exact ⟨0, hne', h2.swap2.tail⟩
    · intro heq
      have heq' : (peekS s i == 39) = true := by simpa using heq
      have hlt : i < s.length := by
        rcases Nat.lt_or_ge i s.length with h | h
        · exact h
        · simp [peekS, List.getD_eq_getElem?_getD, List.getElem?_eq_none h] at heq'
      have hq : quotedS s i = quoGo (s.length + 1) s (i + 1) [] := by simp [quotedS, heq']
      simp only [↓E1, ↓E3, ↓h2.ld0, Nat.reduceAdd, Nat.reduceLT]
      rw [wrap64_succ (by omega)]
      refine h2.st rfl (by simp) rfl fun w3 h3 => ?_
      refine lp2 (fun m x y w => ∃ j acc v hp p f, j ≤ s.length ∧ m = s.length - j ∧ Adr b p ∧ Grow Ty.uint8 1 v acc.length (bcs acc) hp ∧ acc.length ≤ j ∧ quoGo f s j acc = quotedS s i ∧ s.length < f + j ∧ Sat g w ((r, rdr s j) :: (b, bld p v) :: (hp ++ H)))
        (s.length - (i + 1)) ⟨i + 1, [], _, [], _, s.length + 1, by omega, rfl, .inl rfl, .nil, by simp, hq.symm, by omega, h3⟩ ?_
      rintro m x y w4 ⟨j, acc, v, hp, p, f, hj, rfl, hp', hg, hal, hf, hfl, h4⟩
      obtain ⟨f, rfl⟩ : ∃ f', f = f' + 1 := ⟨f - 1, by omega⟩
      have h5 := h4.drew
      simp only [↓E1, ↓E2, ↓E3, ↓C1, ↓h5.ld0, Nat.reduceAdd, Nat.reduceLT]
      constructor
      · intro hlt
        have hlt : j < s.length := by omega
        have hget := peek_get hlt
        refine jnI ?_
        refine jn2 (fun _ _ w => ∃ jj ff, jj < s.length ∧ j ≤ jj ∧ s.length < ff + (jj + 1) ∧ quoGo ff s (jj + 1) (acc ++ [peekS s jj]) = quotedS s i ∧ Sat g w ((r, rdr s jj) :: (b, bld p v) :: (hp ++ H))) ?_ ?_
        · rintro x' y' w6 ⟨jj, ff, hjj, hj2, hffl, hff, h6⟩
          have h7 := h6.drew
          simp only [↓E1, ↓E2, ↓E3, ↓h7.ld0, Nat.reduceAdd, Nat.reduceLT]
          refine ⟨by omega, peekS s jj, by simpa using peek_get hjj, ?_⟩
          have h8 : Sat g w6.drew ((b, bld p v) :: (hp ++ ((r, rdr s jj) :: H))) := h7.perm ((List.Perm.swap _ _ _).trans (.cons _ List.perm_middle.symm))
          refine c_WriteByte h8 hp' hg (by omega) fun v' hp2 w9 hg9 h9 => ?_
          have h10 : Sat g w9 ((r, rdr s jj) :: (b, bld (ptr b 0) v') :: (hp2 ++ H)) := h9.perm ((List.Perm.cons _ List.perm_middle).trans (List.Perm.swap _ _ _))
          simp only [↓E1, ↓E3, ↓h10.ld0, Nat.reduceAdd, Nat.reduceLT]
          rw [wrap64_succ (by omega)]
          refine h10.st rfl (by simp) rfl fun w11 h11 => ?_
          refine ⟨s.length - (jj + 1), by omega, _, _, rfl, jj + 1, acc ++ [peekS s jj], v', hp2, _, ff, by omega, rfl, .inr rfl, by simpa using hg9, by simp; omega, hff, by omega, h11⟩
        · intro k hk
          have h6 := h5.drew
          simp only [↓E1, ↓E2, ↓E3, ↓h6.ld0, Nat.reduceAdd, Nat.reduceLT]
          refine ⟨by omega, peekS s j, by simpa using hget, ?_⟩
          rw [byt_eq, cnd_eq]
          constructor
          · intro hc
            refine c_peek (k := 1) h6 (by omega) fun w7 h7 => ?_
            simp only [↓E1, ↓E3]
            rw [byt_ne, cnd_eq]
            constructor
            · intro hc2
              have hc2' : (peekS s (j + 1) == 39) = false := by simpa using hc2
              simp only [↓E1, ↓E2, ↓E3, ↓h7.ld0, Nat.reduceAdd, Nat.reduceLT]
              rw [wrap64_succ (by omega)]
              refine h7.st rfl (by simp) rfl fun w8 h8 => ?_
              have h9 : Sat g w8 ((b, bld p v) :: (hp ++ ((r, rdr s (j + 1)) :: H))) := h8.perm ((List.Perm.swap _ _ _).trans (.cons _ List.perm_middle.symm))
              refine c_BString h9 hg (by omega) fun w10 h10 => ?_
              simp only [↓E2, ↓E3]
              refine c_BLen (l := acc) h10 hg.slice fun w11 h11 => ?_
              simp only [↓E1, ↓E3]
              have hres : quotedS s i = ((acc, Nat.ble acc.length 1024), j + 1) := by
                rw [← hf]
                simp only [quoGo, hget]
                rw [hc, hc2']
                rfl
              rw [hres] at hR
              rw [ble_dec]
              exact hR _ h11.tail
            · intro hc2
              have hc2' : (peekS s (j + 1) == 39) = true := by simpa using hc2
              have hlt2 : j + 1 < s.length := by
                rcases Nat.lt_or_ge (j + 1) s.length with h | h
                · exact h
                · simp [peekS, List.getD_eq_getElem?_getD, List.getElem?_eq_none h] at hc2'
              simp only [↓E1, ↓E2, ↓E3, ↓h7.ld0, Nat.reduceAdd, Nat.reduceLT]
              rw [wrap64_succ (by omega)]
              refine h7.st rfl (by simp) rfl fun w8 h8 => ?_
              refine hk _ _ _ ⟨j + 1, f, hlt2, by omega, by omega, ?_, h8⟩
              rw [← hf]
              simp only [quoGo, hget]
              rw [hc, hc2']
              have : peekS s (j + 1) = 39 := by simpa using hc2'
              rw [this]
              rfl
          · intro hc
            refine hk _ _ _ ⟨j, f, hlt, by omega, by omega, ?_, h6⟩
            rw [← hf]
            simp only [quoGo, hget]
            rw [hc]
            rfl
      · intro hge
        have hj2 : s[j]? = none := List.getElem?_eq_none (by omega)
        have hres : quotedS s i = (([], false), j) := by
          rw [← hf]
          simp only [quoGo, hj2]
        rw [hres] at hR
        have h6 : Sat g w4.drew ((r, rdr s j) :: H) := Sat.drop (A := (b, bld p v) :: hp) (h5.perm (List.perm_middle (a := (r, rdr s j)) (l₁ := (b, bld p v) :: hp) (l₂ := H)).symm)
        exact hR _ h6
  · intro p hp m
    simp only [List.mem_singleton] at hp
    subst hp
    intro x2 x3 w ⟨hne, h⟩
    have hres : quotedS s i = (([], false), i) := by simp [quotedS, hne]
    rw [hres] at hR
    exact hR _ h
theorem quo_le {s : List UInt8} : ∀ {f i : Nat} {acc : List UInt8}, i ≤ s.length → i ≤ (quoGo f s i acc).2 ∧ (quoGo f s i acc).2 ≤ s.length := by
  intro f
  induction f with
  | zero => intro i acc h; exact ⟨Nat.le_refl _, h⟩
  | succ f ih =>
    intro i acc h
    simp only [quoGo]
    cases hc : s[i]? with
    | none => exact ⟨Nat.le_refl _, h⟩
    | some c =>
      have hlt := (List.getElem?_eq_some_iff.1 hc).1
      cases h1 : (c == 39)
      · simp only [h1, cond_false]
        have := ih (i := i + 1) (acc := acc ++ [c]) (by omega)
        omega
      · cases h2 : (peekS s (i + 1) == 39)
        · simp only [h1, h2, cond_true, cond_false]
          omega
        · have hlt2 : i + 1 < s.length := by
            rcases Nat.lt_or_ge (i + 1) s.length with h | h
            · exact h
            · simp [peekS, List.getD_eq_getElem?_getD, List.getElem?_eq_none h] at h2
          simp only [h1, h2, cond_true]
          have := ih (i := i + 2) (acc := acc ++ [39]) (by omega)
          omega
theorem quoted_le {s : List UInt8} {i : Nat} (h : i ≤ s.length) : i ≤ (quotedS s i).2 ∧ (quotedS s i).2 ≤ s.length := by
  unfold quotedS
  cases hc : (peekS s i == 39)
  · exact ⟨Nat.le_refl _, h⟩
  · have hlt : i < s.length := by
      rcases Nat.lt_or_ge i s.length with h | h
      · exact h
      · simp [peekS, List.getD_eq_getElem?_getD, List.getElem?_eq_none h] at hc
    simp only [cond_true]
    have := quo_le (s := s) (f := s.length + 1) (i := i + 1) (acc := []) (by omega)
    omega

theorem peek_lt {s : List UInt8} {i : Nat} {c : UInt8} (hc : (peekS s i == c) = true) (h0 : c ≠ 0) : i < s.length := by
  rcases Nat.lt_or_ge i s.length with h | h
  · exact h
  · have : peekS s i = 0 := by simp [peekS, List.getD_eq_getElem?_getD, List.getElem?_eq_none h]
    rw [this] at hc
    have h1 : (0 : UInt8) = c := by simpa using hc
    exact absurd h1.symm h0

theorem colon_lt {s : List UInt8} {i : Nat} (h : colonS s i = true) : i < s.length := by
  unfold colonS at h
  rw [Bool.and_eq_true] at h
  exact peek_lt h.1 (by decide)

theorem col_le {s : List UInt8} : ∀ {f i : Nat}, i ≤ s.length → i ≤ colGo f s i ∧ colGo f s i ≤ s.length := by
  intro f
  induction f with
  | zero => intro i h; exact ⟨Nat.le_refl _, h⟩
  | succ f ih =>
    intro i h
    simp only [colGo]
    cases hc : colonS s i
    · exact ⟨Nat.le_refl _, h⟩
    · have hlt := colon_lt hc
      have h1 := name_le (s := s) (i := i + 1) (by omega)
      have h2 := ih (i := (nameS s (i + 1)).2) h1.2
      simp only [cond_true]
      omega

theorem c_symbol {r : Nat} {s : List UInt8} {i : Nat} (hs : Short s) (hi : i ≤ s.length) (hS : Sat g w ((r, rdr s i) :: H))
    (hR : ∀ w', Sat g w' ((r, rdr s (symbolS s i).2) :: H) → R (.returned (.tuple #[str (symbolS s i).1.1, .bool (symbolS s i).1.2])) w') : Tr P F.lex_reader_symbol [ptr r 0] w R := by
  apply t_lex_reader_symbol
  unfold d_lex_reader_symbol
  have hs' := hs
  unfold Short at hs'
  simp only [↓E1, ↓E2, ↓E3, ↓hS.ld0, Nat.reduceAdd, Nat.reduceLT]
  refine jn2 (fun _ _ w => ∃ j, i ≤ j ∧ j ≤ s.length ∧ symbolS s i = ((cut s i j, Nat.ble (j - i) 1024), j) ∧ Sat g w ((r, rdr s j) :: H)) ?_ ?_
  · rintro x y w1 ⟨j, hij, hj, hres, h1⟩
    have h2 := h1.drew
    simp only [↓E1, ↓E2, ↓E3, ↓h2.ld0, Nat.reduceAdd, Nat.reduceLT, sl_lo_hi]
    rw [hres] at hR
    refine ⟨by omega, by omega, by omega, ?_⟩
    rw [wrap64_sub hij (by omega), ble_dec]
    have := hR _ h2
    simpa [cut] using this
  · intro k hk
    refine c_name hs hi hS fun w1 h1 => ?_
    have hn := name_le (s := s) (i := i) hi
    simp only [↓E3]
    rw [cnd_eq]
    constructor
    · intro hb
      refine lp0 (fun m w => ∃ j f, (nameS s i).2 ≤ j ∧ j ≤ s.length ∧ m = s.length - j ∧ colGo f s j = colGo (s.length + 1) s (nameS s i).2 ∧ s.length < f + j ∧ Sat g w ((r, rdr s j) :: H)) rfl _ ⟨(nameS s i).2, s.length + 1, Nat.le_refl _, hn.2, rfl, rfl, by omega, h1⟩ ?_
      rintro m w2 ⟨j, f, hnj, hj, rfl, hf, hfl, h2⟩
      obtain ⟨f, rfl⟩ : ∃ f', f = f' + 1 := ⟨f - 1, by omega⟩
      refine c_colon hs hj h2 fun w3 h3 => ?_
      simp only [↓E1, ↓E2, ↓E3, ↓h3.ld0, Nat.reduceAdd, Nat.reduceLT]
      rw [cnd_eq]
      have hf0 : colGo (f + 1) s j = bif colonS s j then colGo f s (nameS s (j + 1)).2 else j := rfl
      rw [hf0] at hf
      constructor
      · intro hc
        have hlt := colon_lt hc
        rw [hc] at hf
        rw [wrap64_succ (by omega)]
        refine h3.st rfl (by simp) rfl fun w4 h4 => ?_
        have hn2 := name_le (s := s) (i := j + 1) (by omega)
        refine c_name hs (by omega) h4 fun w5 h5 => ?_
        exact ⟨s.length - (nameS s (j + 1)).2, by omega, trivial, (nameS s (j + 1)).2, f, by omega, hn2.2, rfl, hf, by omega, h5⟩
      · intro hc
        rw [hc] at hf
        refine hk _ _ _ ⟨j, by omega, hj, ?_, h3⟩
        simp only [cond_false] at hf
        unfold symbolS
        rw [hb]
        simp only [cond_true, ← hf]
    · intro hb
      have hn1 : (nameS s i).2 = i := by
        unfold nameS at hb ⊢
        cases h : isAt letterB s i
        · rfl
        · rw [h] at hb; simp at hb
      rw [hn1] at h1
      refine c_sign hs hi h1 fun w2 h2 => ?_
      simp only [↓E1, ↓E2, ↓E3]
      rw [cnd_eq]
      have hsym : symbolS s i = bif Nat.blt i (signS s i) then ((cut s i (signS s i), Nat.ble (signS s i - i) 1024), signS s i) else quotedS s i := by
        unfold symbolS
        rw [hb]
        rfl
      constructor
      · intro hc
        have hc' : Nat.blt i (signS s i) = false := by simpa using hc
        have hsi : signS s i = i := by
          have : ¬ i < signS s i := by
            intro h
            rw [← Nat.blt_eq] at h
            rw [h] at hc'
            simp at hc'
          unfold signS at *
          cases h1 : isAt signB s i
          · rfl
          · rw [h1] at this
            cases h2 : isAt signB s (i + 1)
            · rw [h2] at this; simp at this
            · rw [h2] at this; simp at this
        rw [hsi] at h2
        rw [hc'] at hsym
        simp only [cond_false] at hsym
        refine c_quoted hs hi h2 fun w3 h3 => ?_
        simp only [↓E2, ↓E3]
        rw [hsym] at hR
        exact hR _ h3
      · intro hc
        have hc' : Nat.blt i (signS s i) = true := by simpa using hc
        rw [hc'] at hsym
        have hlt : i < signS s i := by simpa using hc'
        have hle : signS s i ≤ s.length := by
          unfold signS
          cases h1 : isAt signB s i
          · exact hi
          · have := isAt_lt h1
            cases h2 : isAt signB s (i + 1)
            · exact this
            · have := isAt_lt h2
              simp only [cond_true]
              omega
        exact hk _ _ _ ⟨signS s i, by omega, hle, hsym, h2⟩
end Go.Vx
namespace Go.Vx
open Go Go.Proofs
variable {R : Ending → World → Prop} {g : G} {w : World} {H hp : Hp}

/-- What is to be shown of whole.Read, at digits. -/
def WholeOK : Prop := ∀ {t : List UInt8} {g : G} {w : World} {H : Hp} {R : Ending → World → Prop}, t ≠ [] → t.length ≤ 4096 → (∀ c ∈ t, digitB c = true) → Sat g w H →
  (∀ g' b sl e w', g.le g' → Sat g' w' H → one sl = true → decide (e = 0) = numB t → R (.returned (.tuple #[.agg #[.bool b, sl], i64 e])) w') → Tr P F.whole_Read [str t] w R

theorem bdI {z : List Value} {ps : List (Nat × Nat × Value)} {cs : List Value} {K : Value → World → Prop} {w : World} (h : fillV z ps = some cs) (hk : K (.agg cs.toArray) w) : bd z ps K w := ⟨cs, h, hk⟩

theorem Sat.ldn0 {b : Nat} {c : List Value} {t : TypeId} {fr : Nat × Nat} {K : Value → World → Prop} {n : Nat} (h : Sat g w ((b, .cells c.toArray t fr) :: H)) (hn : n = c.length) (hk : K (.agg c.toArray) w) : ldn n (ptr b 0) K w := by
  subst hn
  refine h.ldnH (b := b) (c := c) (t := t) (fr := fr) (by simp) _ 0 (by simp) ?_
  simpa using hk

theorem allOne2 {b : Bool} {sl : Value} (h : one sl = true) : allOne (Value.agg #[.bool b, sl]).cells.toList = true := by
  show (one (.bool b) && (one sl && true)) = true
  rw [h]; rfl

def tokCells (t : Tok) : List Value := [i64 (t.kind : Int), str t.text, i64 (t.pos : Int)]
abbrev tokV (t : Tok) : Value := .agg (tokCells t).toArray

theorem skip_digits {p : UInt8 → Bool} : ∀ (l : List UInt8), ∀ c ∈ l.take (scan p l), p c = true := by
  intro l
  induction l with
  | nil => intro c hc; simp at hc
  | cons x l ih =>
    intro c hc
    simp only [scan] at hc
    cases hx : p x
    · rw [hx] at hc; simp at hc
    · rw [hx] at hc
      simp only [cond_true, List.take_succ_cons, List.mem_cons] at hc
      rcases hc with rfl | hc
      · exact hx
      · exact ih c hc

theorem e35 : (35 : Int) = ((35 : UInt8).toNat : Int) := rfl
theorem e40 : (40 : Int) = ((40 : UInt8).toNat : Int) := rfl
theorem e61 : (61 : Int) = ((61 : UInt8).toNat : Int) := rfl

theorem symbol_le {s : List UInt8} {i : Nat} (h : i ≤ s.length) : i ≤ (symbolS s i).2 ∧ (symbolS s i).2 ≤ s.length := by
  unfold symbolS
  have hn := name_le (s := s) (i := i) h
  cases hb : (nameS s i).1
  · simp only [cond_false]
    cases hc : Nat.blt i (signS s i)
    · exact quoted_le h
    · simp only [cond_true]
      have : i < signS s i := by simpa using hc
      refine ⟨by omega, ?_⟩
      unfold signS
      cases h1 : isAt signB s i
      · exact h
      · have := isAt_lt h1
        cases h2 : isAt signB s (i + 1)
        · exact this
        · have := isAt_lt h2
          simp only [cond_true]
          omega
  · simp only [cond_true]
    have := col_le (s := s) (f := s.length + 1) hn.2
    omega

theorem sign_le {s : List UInt8} {i : Nat} (h : i ≤ s.length) : i ≤ signS s i ∧ signS s i ≤ s.length := by
  unfold signS
  cases h1 : isAt signB s i
  · exact ⟨Nat.le_refl _, h⟩
  · have := isAt_lt h1
    cases h2 : isAt signB s (i + 1)
    · simp only [cond_true, cond_false]; omega
    · have := isAt_lt h2
      simp only [cond_true]
      omega

theorem c_word (hW : WholeOK) {r : Nat} {s : List UInt8} {i : Nat} (hs : s.length ≤ 4096) (hi : i < s.length) (hS : Sat g w ((r, rdr s i) :: H))
    (hR : ∀ g' w', g.le g' → Sat g' w' ((r, rdr s (wordS s i).2) :: H) → R (.returned (.tuple #[tokV (wordS s i).1.1, .bool (wordS s i).1.2])) w') : Tr P F.lex_reader_word [ptr r 0] w R := by
  have hsh : Short s := by unfold Short; omega
  apply t_lex_reader_word
  unfold d_lex_reader_word
  refine hS.al fun b2 w1 h1 => ?_
  have h1 := h1.swap2
  simp only [↓E1, ↓E2, ↓E3, ↓h1.ld0, Nat.reduceAdd, Nat.reduceLT]
  refine bdI (cs := [i64 0, str [], i64 (i : Int)]) rfl ?_
  refine h1.al fun b4 w2 h2 => ?_
  refine h2.st (c := [.int .i64 0, .string ⟨#[]⟩, .int .i64 0]) rfl (by simp) rfl fun w3 h3 => ?_
  have h3 : Sat g w3 ((b4, .cells [i64 0, str [], i64 (i : Int)].toArray 112) :: (r, rdr s i) :: (b2, .cells [i64 0, str [], i64 0].toArray 112) :: H) := h3
  have h3 := h3.swap2
  -- where the ways meet
  refine jn2 (fun _ x5 w => ∃ g1 ok k j, g.le g1 ∧ x5 = .bool ok ∧ i ≤ j ∧ j ≤ s.length ∧ wordS s i = ((⟨k, cut s i j, i⟩, ok), j) ∧
      Sat g1 w ((r, rdr s j) :: (b4, .cells [i64 (k : Int), str [], i64 (i : Int)].toArray 112) :: (b2, .cells [i64 0, str [], i64 0].toArray 112) :: H)) ?_ ?_
  · rintro x3 x5 w4 ⟨g1, ok, k, j, hg1, rfl, hij, hj, hres, h4⟩
    have h5 := h4.drew
    simp only [↓E1, ↓E2, ↓E3, ↓h5.ld0, ↓h5.ld1, Nat.reduceAdd, Nat.reduceLT, sl_lo_hi]
    refine ⟨by omega, by omega, by omega, ?_⟩
    refine h5.swap2.st rfl (by simp) rfl fun w6 h6 => ?_
    have h6 : Sat g1 w6 ((b4, .cells [i64 (k : Int), str (cut s i j), i64 (i : Int)].toArray 112) :: (r, rdr s j) :: (b2, .cells [i64 0, str [], i64 0].toArray 112) :: H) := h6
    refine h6.ldn0 (c := [i64 (k : Int), str (cut s i j), i64 (i : Int)]) rfl ?_
    have h7 : Sat g1 w6 ((b2, .cells [i64 0, str [], i64 0].toArray 112) :: (b4, .cells [i64 (k : Int), str (cut s i j), i64 (i : Int)].toArray 112) :: (r, rdr s j) :: H) :=
      h6.perm (List.perm_middle (l₁ := [(b4, _), (r, _)]))
    refine h7.st (c := [i64 0, str [], i64 0]) rfl (by simp) rfl fun w8 h8 => ?_
    have h8 : Sat g1 w8 ((b2, .cells [i64 (k : Int), str (cut s i j), i64 (i : Int)].toArray 112) :: (b4, .cells [i64 (k : Int), str (cut s i j), i64 (i : Int)].toArray 112) :: (r, rdr s j) :: H) := h8
    refine h8.ldn0 (c := [i64 (k : Int), str (cut s i j), i64 (i : Int)]) rfl ?_
    rw [hres] at hR
    exact hR _ _ hg1 h8.tail.tail
  · intro k hk
    have h4 := h3.drew
    simp only [↓E1, ↓E2, ↓E3, ↓h4.ld0, Nat.reduceAdd, Nat.reduceLT]
    refine ⟨by omega, peekS s i, by simpa using peek_get hi, ?_⟩
    apply c_letter
    simp only [↓E3]
    rw [cnd_eq]
    -- one more byte (or two), and a kind
    have made : ∀ (kd n : Nat) (w5 : World) (g1 : G) (ok : Bool), g.le g1 → i ≤ n → n ≤ s.length → wordS s i = ((⟨kd, cut s i n, i⟩, ok), n) →
        Sat g1 w5 ((r, rdr s n) :: (b4, .cells [i64 (kd : Int), str [], i64 (i : Int)].toArray 112) :: (b2, .cells [i64 0, str [], i64 0].toArray 112) :: H) → k (.bool false) (.bool ok) w5 :=
      fun kd n w5 g1 ok hg h1 h2 h3 h4 => hk _ _ _ ⟨g1, ok, kd, n, hg, rfl, h1, h2, h3, h4⟩
    have kind : ∀ (kd : Nat) (n : Nat) (w5 : World) (g1 : G) (k0 : Nat) (K : World → Prop), Sat g1 w5 ((r, rdr s n) :: (b4, .cells [i64 (k0 : Int), str [], i64 (i : Int)].toArray 112) :: (b2, .cells [i64 0, str [], i64 0].toArray 112) :: H) →
        (∀ w6, Sat g1 w6 ((r, rdr s n) :: (b4, .cells [i64 (kd : Int), str [], i64 (i : Int)].toArray 112) :: (b2, .cells [i64 0, str [], i64 0].toArray 112) :: H) → K w6) → st 1 (ptr b4 0) (i64 (kd : Int)) K w5 := by
      intro kd n w5 g1 k0 K h hK
      refine h.swap2.st rfl (by simp) rfl fun w6 h6 => hK _ ?_
      exact Sat.swap2 (h6 : Sat g1 w6 ((b4, .cells [i64 (kd : Int), str [], i64 (i : Int)].toArray 112) :: (r, rdr s n) :: (b2, .cells [i64 0, str [], i64 0].toArray 112) :: H))
    have last : ∀ (kd : Nat) (t : List UInt8) (ok : Bool) (n : Nat) (w5 : World), wordS s i = ((⟨kd, t, i⟩, ok), n) →
        Sat g w5 ((r, rdr s n) :: (b4, .cells [i64 (kd : Int), str [], i64 (i : Int)].toArray 112) :: (b2, .cells [i64 0, str [], i64 0].toArray 112) :: H) →
        st 1 (ptr b4 1) (str t) (fun w => ldn 3 (ptr b4 0) (fun t86 w => st 3 (ptr b2 0) t86 (fun w => ldn 3 (ptr b2 0) (fun r0 w => R (.returned (.tuple #[r0, .bool ok])) w) w) w) w) w5 := by
      intro kd t ok n w5 hres h
      refine h.swap2.st rfl (by simp) rfl fun w6 h6 => ?_
      have h6 : Sat g w6 ((b4, .cells [i64 (kd : Int), str t, i64 (i : Int)].toArray 112) :: (r, rdr s n) :: (b2, .cells [i64 0, str [], i64 0].toArray 112) :: H) := h6
      refine h6.ldn0 (c := [i64 (kd : Int), str t, i64 (i : Int)]) rfl ?_
      have h7 : Sat g w6 ((b2, .cells [i64 0, str [], i64 0].toArray 112) :: (b4, .cells [i64 (kd : Int), str t, i64 (i : Int)].toArray 112) :: (r, rdr s n) :: H) :=
        h6.perm (List.perm_middle (l₁ := [(b4, _), (r, _)]))
      refine h7.st (c := [i64 0, str [], i64 0]) rfl (by simp) rfl fun w8 h8 => ?_
      have h8 : Sat g w8 ((b2, .cells [i64 (kd : Int), str t, i64 (i : Int)].toArray 112) :: (b4, .cells [i64 (kd : Int), str t, i64 (i : Int)].toArray 112) :: (r, rdr s n) :: H) := h8
      refine h8.ldn0 (c := [i64 (kd : Int), str t, i64 (i : Int)]) rfl ?_
      rw [hres] at hR
      exact hR _ _ (.refl g) h8.tail.tail
    constructor
    · intro hl
      have hn := name_le (s := s) (i := i) (by omega)
      refine c_name hsh (by omega) h4 fun w6 h6 => ?_
      try simp only [↓E1, ↓E3, Nat.reduceAdd]
      refine kind 1 _ _ _ 0 _ h6 fun w7 h7 => ?_
      try simp only [↓E2]
      refine c_colon hsh hn.2 h7 fun w8 h8 => ?_
      try simp only [↓E1, ↓E3, Nat.reduceAdd]
      rw [cnd_eq]
      constructor
      · intro hc
        have hlt := colon_lt hc
        refine kind 2 _ _ _ 1 _ h8 fun w9 h9 => ?_
        try simp only [↓E1, ↓E3, ↓h9.ld0, Nat.reduceAdd, Nat.reduceLT]
        rw [wrap64_succ (by omega)]
        refine h9.st rfl (by simp) rfl fun w10 h10 => ?_
        refine made 2 ((nameS s i).2 + 1) _ _ true (.refl g) (by omega) (by omega) ?_ h10
        try simp only [wordS, hl, hc, cond_true]
      · intro hc
        refine made 1 ((nameS s i).2) _ _ true (.refl g) (by omega) (by omega) ?_ h8
        try simp only [wordS, hl, hc, cond_true, cond_false]
    · intro hl
      try simp only [↓E2]
      apply c_digit
      try simp only [↓E3]
      rw [cnd_eq]
      constructor
      · intro hd
        try simp only [↓E1, Nat.reduceAdd]
        refine kind 4 _ _ _ 0 _ h4 fun w6 h6 => ?_
        have hk' := skip_le (p := digitB) (s := s) (i := i) (by omega)
        try simp only [↓E2]
        refine c_skip hsh (by omega) h6 p_digit fun w7 h7 => ?_
        have h8 := h7.drew
        have hres : wordS s i = ((⟨4, cut s i (skipS digitB s i), i⟩, numB (cut s i (skipS digitB s i))), skipS digitB s i) := by
          try simp only [wordS, hl, hd, cond_true, cond_false]
        have hdig : ∀ c ∈ cut s i (skipS digitB s i), digitB c = true := by
          intro c hc
          unfold cut skipS at hc
          rw [Nat.add_sub_cancel_left] at hc
          exact skip_digits _ c hc
        have hpos : i < skipS digitB s i := by
          have h1 : isAt digitB s i = true := by simp [isAt, peek_get hi, hd]
          have h2 := skip_yes h1
          have h3 := skip_le (p := digitB) (s := s) (i := i + 1) (by omega)
          omega
        have hne : cut s i (skipS digitB s i) ≠ [] := by
          intro e
          have := congrArg List.length e
          simp [cut] at this
          omega
        have hlen : (cut s i (skipS digitB s i)).length ≤ 4096 := by
          simp [cut]; omega
        have hcut : List.take (((skipS digitB s i : Nat) : Int).toNat - ((i : Nat) : Int).toNat) (List.drop ((i : Nat) : Int).toNat s) = cut s i (skipS digitB s i) := rfl
        try simp only [↓E1, ↓E2, ↓E3, ↓h8.ld0, ↓h8.ld1, Nat.reduceAdd, Nat.reduceLT, sl_lo_hi, hcut]
        refine ⟨⟨by omega, by omega, by omega, ?_⟩, ⟨by omega, by omega, by omega, ?_⟩⟩
        · refine hW hne hlen hdig h8 fun g' b sl e w9 hg9 h9 hone he => ?_
          try simp only [↓E1, ↓E2, ↓E3]
          refine h9.al fun b7 w10 h10 => ?_
          refine h10.st (c := [.bool false, .slice none 0 0]) rfl (by simp) (allOne2 hone) fun w11 h11 => ?_
          try simp only [↓E1, ↓E3, he]
          exact made 4 _ _ _ _ hg9 (by omega) (by omega) hres h11.tail
        · refine h8.al fun b7 w9 h9 => ?_
          refine h9.rk (t := 132) (fr := (0, 0)) (c := [str s, i64 ((skipS digitB s i : Nat) : Int)]) (by simp) rfl ?_
          refine h9.rk (t := 112) (fr := (0, 0)) (c := [i64 (4 : Int), str [], i64 (i : Int)]) (by simp) rfl ?_
          refine h9.rk (t := 132) (fr := (0, 0)) (c := [str s, i64 ((skipS digitB s i : Nat) : Int)]) (by simp) rfl ?_
          refine hW hne hlen hdig h9 fun g' b sl e w9 hg9 h9 hone he => ?_
          try simp only [↓E1, ↓E2, ↓E3]
          refine h9.st (c := [.bool false, .slice none 0 0]) rfl (by simp) (allOne2 hone) fun w11 h11 => ?_
          try simp only [↓E1, ↓E3, he]
          exact made 4 _ _ _ _ hg9 (by omega) (by omega) hres h11.tail
      · intro hd
        try simp only [↓E1]
        rw [e39, byt_eq, cnd_eq]
        constructor
        · intro hq
          try simp only [↓E1, Nat.reduceAdd]
          refine kind 5 _ _ _ 0 _ h4 fun w6 h6 => ?_
          try simp only [↓E2]
          refine c_quoted hsh (by omega) h6 fun w7 h7 => ?_
          try simp only [↓E1, ↓E2, ↓E3, Nat.reduceAdd]
          refine last 5 _ _ _ _ ?_ h7
          try simp only [wordS, hl, hd, hq, cond_true, cond_false]
        · intro hq
          refine jn1 (fun x w => x = .bool (peekS s i == 35 && peekS s (i + 1) == 40) ∧ Sat g w ((r, rdr s i) :: (b4, .cells [i64 ((0 : Nat) : Int), str [], i64 (i : Int)].toArray 112) :: (b2, .cells [i64 0, str [], i64 0].toArray 112) :: H)) ?_ ?_
          · rintro x w5 ⟨rfl, h5⟩
            rw [cnd_eq]
            constructor
            · intro hc
              rw [Bool.and_eq_true] at hc
              have hlt := peek_lt hc.2 (by decide)
              refine kind 17 _ _ _ 0 _ h5 fun w6 h6 => ?_
              simp only [↓E1, ↓E3, ↓h6.ld0, Nat.reduceAdd, Nat.reduceLT]
              rw [wrap64_two (by omega)]
              refine h6.st rfl (by simp) rfl fun w7 h7 => ?_
              refine made 17 (i + 2) _ _ true (.refl g) (by omega) (by omega) ?_ h7
              simp only [wordS, hl, hd, hq, hc.1, hc.2, Bool.and_true, cond_true, cond_false]
            · intro hc
              try simp only [↓E1]
              rw [e35, byt_eq, cnd_eq]
              constructor
              · intro h35
                try simp only [↓E1, Nat.reduceAdd]
                refine kind 6 _ _ _ 0 _ h5 fun w6 h6 => ?_
                simp only [↓E1, ↓E3, ↓h6.ld0, Nat.reduceAdd, Nat.reduceLT]
                rw [wrap64_succ (by omega)]
                refine h6.st rfl (by simp) rfl fun w7 h7 => ?_
                refine c_symbol hsh (by omega) h7 fun w8 h8 => ?_
                simp only [↓E1, ↓E2, ↓E3, Nat.reduceAdd]
                refine last 6 _ _ _ _ ?_ h8
                rw [h35, Bool.true_and] at hc
                simp only [wordS, hl, hd, hq, hc, h35, Bool.true_and, Bool.false_and, cond_true, cond_false]
              · intro h35
                refine jn1 (fun x w => x = .bool (peekS s i == 58 && peekS s (i + 1) == 61) ∧ Sat g w ((r, rdr s i) :: (b4, .cells [i64 ((0 : Nat) : Int), str [], i64 (i : Int)].toArray 112) :: (b2, .cells [i64 0, str [], i64 0].toArray 112) :: H)) ?_ ?_
                · rintro x w6 ⟨rfl, h6⟩
                  rw [cnd_eq]
                  constructor
                  · intro hc2
                    rw [Bool.and_eq_true] at hc2
                    have hlt := peek_lt hc2.2 (by decide)
                    refine kind 7 _ _ _ 0 _ h6 fun w7 h7 => ?_
                    simp only [↓E1, ↓E3, ↓h7.ld0, Nat.reduceAdd, Nat.reduceLT]
                    rw [wrap64_two (by omega)]
                    refine h7.st rfl (by simp) rfl fun w8 h8 => ?_
                    refine made 7 (i + 2) _ _ true (.refl g) (by omega) (by omega) ?_ h8
                    simp only [wordS, hl, hd, hq, h35, hc2.1, hc2.2, Bool.and_true, Bool.false_and, cond_true, cond_false]
                  · intro hc2
                    try simp only [↓E1]
                    rw [e58, byt_eq, cnd_eq]
                    constructor
                    · intro h58
                      refine kind 16 _ _ _ 0 _ h6 fun w7 h7 => ?_
                      simp only [↓E1, ↓E3, ↓h7.ld0, Nat.reduceAdd, Nat.reduceLT]
                      rw [wrap64_succ (by omega)]
                      refine h7.st rfl (by simp) rfl fun w8 h8 => ?_
                      refine made 16 (i + 1) _ _ true (.refl g) (by omega) (by omega) ?_ h8
                      rw [h58, Bool.true_and] at hc2
                      simp only [wordS, hl, hd, hq, h35, hc2, h58, Bool.true_and, Bool.false_and, cond_true, cond_false]
                    · intro h58
                      refine c_sign hsh (by omega) h6 fun w7 h7 => ?_
                      have hsg := sign_le (s := s) (i := i) (by omega)
                      simp only [↓E3]
                      rw [cnd_eq]
                      constructor
                      · intro hsn
                        try simp only [↓E1, Nat.reduceAdd]
                        refine kind 3 _ _ _ 0 _ h7 fun w8 h8 => ?_
                        refine made 3 (signS s i) _ _ true (.refl g) (by omega) (by omega) ?_ h8
                        simp only [wordS, hl, hd, hq, h35, h58, hsn, Bool.false_and, cond_true, cond_false]
                      · intro hsn
                        have hsi : signS s i = i := by
                          have : ¬ i < signS s i := by
                            intro h
                            rw [← Nat.blt_eq] at h
                            rw [h] at hsn
                            simp at hsn
                          omega
                        rw [hsi] at h7
                        have hw : wordS s i = match idx (peekS s i) singleL with
                            | some k => ((⟨8 + k, cut s i (i + 1), i⟩, true), i + 1)
                            | none => ((⟨7, cut s i (i + 1), i⟩, false), i + 1) := by
                          simp only [wordS, hl, hd, hq, h35, h58, hsn, Bool.false_and, cond_true, cond_false]
                          cases idx (peekS s i) singleL <;> rfl
                        refine c_place (l := singleL) single_ascii h7 fun w8 h8 => ?_
                        simp only [↓E1, ↓E2, ↓E3, Nat.reduceAdd]
                        have fin : ∀ (kd : Nat) (ok : Bool), decide ((8 : Int) ≤ (kd : Int)) = ok → wordS s i = ((⟨kd, cut s i (i + 1), i⟩, ok), i + 1) → ∀ (w9 : World), Sat g w9 ((r, rdr s i) :: (b4, .cells [i64 (kd : Int), str [], i64 (i : Int)].toArray 112) :: (b2, .cells [i64 0, str [], i64 0].toArray 112) :: H) →
                            ld (ptr b4 0) (fun t28 w => bI .geq .i64 t28 (i64 8) (fun t29 w => ld (ptr r 1) (fun t33 w => bI .add .i64 t33 (i64 1) (fun t34 w => st 1 (ptr r 1) t34 (fun w => k (.bool false) t29 w) w) w) w) w) w9 := by
                          intro kd ok hok hres w9 h9
                          simp only [↓E1, ↓E3, ↓h9.ld0, ↓h9.ld1, Nat.reduceAdd, Nat.reduceLT]
                          rw [wrap64_succ (by omega), hok]
                          refine h9.st rfl (by simp) rfl fun w10 h10 => ?_
                          exact made kd (i + 1) _ _ ok (.refl g) (by omega) (by omega) hres h10
                        cases hix : idx (peekS s i) singleL with
                        | none =>
                          rw [hix] at hw
                          refine kind 7 _ _ _ 0 _ h8 fun w9 h9 => ?_
                          exact fin 7 false rfl hw _ h9
                        | some q =>
                          rw [hix] at hw
                          have hq8 : q < 8 := by
                            have := idxGo_some hix
                            simpa [singleL] using this.2
                          have hwr : IntKind.i64.wrap (8 + idxI (some q)) = ((8 + q : Nat) : Int) := by
                            simp only [idxI]
                            rw [wrap64_of (by omega) (by omega)]
                            omega
                          rw [hwr]
                          refine kind (8 + q) _ _ _ 0 _ h8 fun w9 h9 => ?_
                          exact fin (8 + q) true (by simp; omega) hw _ h9
                · intro k3 hk3
                  try simp only [↓E1]
                  rw [e58, byt_eq, cnd_eq]
                  constructor
                  · intro h58
                    refine c_peek (k := 1) h5 (by omega) fun w6 h6 => ?_
                    simp only [↓E1, ↓E3]
                    rw [e61, byt_eq]
                    exact hk3 _ _ ⟨by rw [h58]; rfl, h6⟩
                  · intro h58
                    exact hk3 _ _ ⟨by rw [h58]; rfl, h5⟩
          · intro k2 hk2
            try simp only [↓E1]
            rw [e35, byt_eq, cnd_eq]
            constructor
            · intro h35
              refine c_peek (k := 1) h4 (by omega) fun w6 h6 => ?_
              simp only [↓E1, ↓E3]
              rw [e40, byt_eq]
              exact hk2 _ _ ⟨by rw [h35]; rfl, h6⟩
            · intro h35
              exact hk2 _ _ ⟨by rw [h35]; rfl, h4⟩
end Go.Vx
namespace Go.Vx
open Go Go.Proofs
variable {R : Ending → World → Prop} {g : G} {w : World} {H hp : Hp}

/-- Words as cells. -/
def toks (l : List Tok) : List Value := l.flatMap tokCells
theorem toks_snoc (l : List Tok) (t : Tok) : toks (l ++ [t]) = toks l ++ tokCells t := by simp [toks]
theorem toks_length (l : List Tok) : (toks l).length = l.length * 3 := by
  induction l with
  | nil => rfl
  | cons t l ih =>
    show (tokCells t ++ toks l).length = _
    rw [List.length_append, ih]
    simp [tokCells]
    omega

theorem e34 : (34 : Int) = ((34 : UInt8).toNat : Int) := rfl

theorem word_lt {s : List UInt8} {i : Nat} (hi : i < s.length) : i < (wordS s i).2 ∧ (wordS s i).2 ≤ s.length := by
  have hn := name_le (s := s) (i := i) (by omega)
  unfold wordS
  simp only []
  cases h1 : letterB (peekS s i)
  · cases h2 : digitB (peekS s i)
    · cases h3 : (peekS s i == 39)
      · cases h4 : (peekS s i == 35 && peekS s (i + 1) == 40)
        · cases h5 : (peekS s i == 35)
          · cases h6 : (peekS s i == 58 && peekS s (i + 1) == 61)
            · cases h7 : (peekS s i == 58)
              · cases h8 : Nat.blt i (signS s i)
                · simp only [cond_true, cond_false]
                  cases idx (peekS s i) singleL <;> (simp only []; omega)
                · simp only [cond_true, cond_false]
                  have := sign_le (s := s) (i := i) (by omega)
                  have h9 : i < signS s i := by simpa using h8
                  omega
              · simp only [cond_true, cond_false]; omega
            · simp only [cond_true, cond_false]
              rw [Bool.and_eq_true] at h6
              have := peek_lt h6.2 (by decide)
              omega
          · simp only [cond_true, cond_false]
            have := symbol_le (s := s) (i := i + 1) (by omega)
            omega
        · simp only [cond_true, cond_false]
          rw [Bool.and_eq_true] at h4
          have := peek_lt h4.2 (by decide)
          omega
      · simp only [cond_true, cond_false]
        have := quo_le (s := s) (f := s.length + 1) (i := i + 1) (acc := []) (by omega)
        unfold quotedS
        rw [h3]
        simp only [cond_true]
        omega
    · simp only [cond_true, cond_false]
      have h1 : isAt digitB s i = true := by simp [isAt, peek_get hi, h2]
      have h2 := skip_yes h1
      have h3 := skip_le (p := digitB) (s := s) (i := i + 1) (by omega)
      omega
  · simp only [cond_true]
    have h2 : isAt letterB s i = true := by simp [isAt, peek_get hi, h1]
    have h3 : isAt idB s i = true := by simp [isAt, peek_get hi, h1, idB]
    have h4 := skip_yes h3
    have h5 := skip_le (p := idB) (s := s) (i := i + 1) (by omega)
    have h6 : (nameS s i).2 = skipS idB s i := by unfold nameS; rw [h2]; rfl
    cases hc : colonS s (nameS s i).2
    · simp only [cond_false]; omega
    · have := colon_lt hc
      simp only [cond_true]; omega

theorem c_Read (hW : WholeOK) {s : List UInt8} (hS : Sat g w H) (hlen : s.length ≤ 9223372036854775807)
    (hok : ∀ l g' v w', readS s = .ok l → g.le g' → Sat g' w' H → Sl g' 3 v l.length (toks l) → R (.returned (.tuple #[v, i64 0, i64 0])) w')
    (herr : ∀ (p e : Nat) g' w', readS s = .error (p, e) → g.le g' → Sat g' w' H → R (.returned (.tuple #[.slice none 0 0, i64 (p : Int), i64 (e : Int)])) w') :
    Tr P F.lex_Read [str s] w R := by
  apply t_lex_Read
  unfold d_lex_Read
  have hread : s.length ≤ 4096 → ∀ l, readGo (s.length + 1) s 0 [] = .ok l → readS s = .ok l := by
    intro hs l h
    have hb : Nat.blt 4096 s.length = false := by
      cases hb : Nat.blt 4096 s.length with
      | false => rfl
      | true => rw [Nat.blt_eq] at hb; omega
    unfold readS
    rw [hb, h]
    rfl
  have hbad : s.length ≤ 4096 → ∀ i, readGo (s.length + 1) s 0 [] = .error i → readS s = .error (i, 20) := by
    intro hs l h
    have hb : Nat.blt 4096 s.length = false := by
      cases hb : Nat.blt 4096 s.length with
      | false => rfl
      | true => rw [Nat.blt_eq] at hb; omega
    unfold readS
    rw [hb, h]
    rfl
  obtain ⟨J, hJ⟩ : ∃ J : Nat → Nat → List Value → World → Prop, J = (fun m l vs w => (l = 0 ∧ ∃ (x2 x3 x4 x7 v : Value) (r i0 f : Nat) (acc : List Tok) (g1 : G) (hp : Hp), vs = [x2, x3, x4, ptr r 0, v, x7] ∧ s.length ≤ 4096 ∧ i0 ≤ s.length ∧ m = s.length - i0 ∧ acc.length ≤ i0 ∧ s.length < f + i0 ∧ readGo f s i0 acc = readGo (s.length + 1) s 0 [] ∧
      g.le g1 ∧ Grow 112 3 v acc.length (toks acc) hp ∧ Sat g1 w ((r, rdr s i0) :: (hp ++ H))) ∨
      (l = 1 ∧ ∃ (x2 x3 x4 x5 x6 : Value) (i : Nat) (g1 : G), vs = [x2, x3, x4, x5, x6, i64 (i : Int)] ∧ s.length ≤ 4096 ∧ readGo (s.length + 1) s 0 [] = .error i ∧ g.le g1 ∧ Sat g1 w H)) := ⟨_, rfl⟩
  refine sc_intro J ?_ ?_
  · simp only [↓E1, ↓E2]
    rw [cnd_dec]
    constructor
    · intro h
      refine herr 0 3 g w ?_ (.refl g) hS
      have hb : Nat.blt 4096 s.length = true := by rw [Nat.blt_eq]; omega
      unfold readS
      rw [hb]
      rfl
    intro h
    have hs : s.length ≤ 4096 := by omega
    have hsh : Short s := by unfold Short; omega
    have hread := hread hs
    have hbad := hbad hs
    refine bdI (cs := [str s, i64 0]) rfl ?_
    refine hS.al fun r w1 h1 => ?_
    have h1 : Sat g w1 ((r, rdr s 0) :: ([] ++ H)) := h1
    have hg : Grow 112 3 (.slice none 0 0) ([] : List Tok).length (toks []) [] := .nil
    obtain ⟨f, i0, acc, g1, hp, v, hf0, hi00, hacc, hg10, hp0, hv0⟩ : ∃ (f i0 : Nat) (acc : List Tok) (g1 : G) (hp : Hp) (v : Value), f = s.length + 1 ∧ i0 = 0 ∧ acc = [] ∧ g1 = g ∧ hp = [] ∧ v = .slice none 0 0 := ⟨_, _, _, _, _, _, rfl, rfl, rfl, rfl, rfl, rfl⟩
    have hi0 : i0 ≤ s.length := by omega
    have hal : acc.length ≤ i0 := by rw [hacc]; simp
    have hfl : s.length < f + i0 := by omega
    have hf : readGo f s i0 acc = readGo (s.length + 1) s 0 [] := by rw [hf0, hi00, hacc]
    have hg1 : g.le g1 := by rw [hg10]; exact .refl g
    rw [← hi00, ← hp0, ← hg10] at h1
    rw [← hacc, ← hv0, ← hp0] at hg
    rw [← hv0]
    have hsk := skip_le (p := blankB) (s := s) (i := i0) hi0
    refine c_skip hsh hi0 h1 p_blank fun w2 h2 => ?_
    obtain ⟨i, hi⟩ : ∃ i, skipS blankB s i0 = i := ⟨_, rfl⟩
    rw [hi] at h2 hsk
    obtain ⟨f, rfl⟩ : ∃ f', f = f' + 1 := ⟨f - 1, by omega⟩
    have hstep : readGo (f + 1) s i0 acc = bif Nat.beq i s.length then .ok (acc ++ [⟨0, [], i⟩])
      else bif peekS s i == 34 then (match idx 34 (s.drop (i + 1)) with | none => .error i | some k => readGo f s (i + (k + 2)) acc)
      else bif (wordS s i).1.2 then readGo f s (wordS s i).2 (acc ++ [(wordS s i).1.1]) else .error i := by
      rw [← hi]; rfl
    rw [hstep] at hf
    simp only [↓E1, ↓E2, ↓E3, ↓h2.ld0, Nat.reduceAdd, Nat.reduceLT]
    rw [cnd_dec]
    constructor
    · intro he
      have he : i = s.length := by omega
      have hb : Nat.beq i s.length = true := by rw [he]; exact Nat.beq_refl _
      rw [hb] at hf
      simp only [cond_true] at hf
      refine bdI (cs := tokCells ⟨0, [], i⟩) rfl ?_
      refine h2.bs (cs := tokCells ⟨0, [], i⟩) rfl fun b2 w3 h3 => ?_
      have h4 : Sat g1 w3 ((b2, .cells (tokCells ⟨0, [], i⟩).toArray 112) :: (hp ++ ((r, rdr s i) :: H))) := h3.perm (.cons _ List.perm_middle.symm)
      refine Sat.ap1 (m := 1) (c := 1) h4 hg rfl rfl rfl (by omega) (by omega) fun v' hp2 w5 hg5 h5 => ?_
      obtain ⟨g2, hg2, h6, hsl⟩ := hg5.freeze h5
      refine hok (acc ++ [⟨0, [], i⟩]) g2 v' w5 (hread _ hf.symm) (hg1.trans hg2) h6.tail ?_
      have := toks_snoc acc ⟨0, [], i⟩
      rw [this]
      simpa using hsl
    · intro he
      have he : i < s.length := by omega
      have hb : Nat.beq i s.length = false := by
        cases h : Nat.beq i s.length with
        | false => rfl
        | true => have := Nat.eq_of_beq_eq_true h; omega
      rw [hb] at hf
      simp only [cond_false] at hf
      refine ⟨by omega, peekS s i, by simpa using peek_get he, ?_⟩
      rw [e34, byt_eq, cnd_eq]
      constructor
      · intro hq
        rw [hq] at hf
        simp only [cond_true] at hf
        rw [wrap64_succ (by omega), sl_lo]
        refine ⟨by omega, by omega, ?_⟩
        have hdr : (List.drop ((i + 1 : Nat) : Int).toNat s) = s.drop (i + 1) := rfl
        rw [hdr]
        apply c_indexByte
        simp only [↓E1, ↓E2, ↓E3]
        rw [cnd_dec]
        cases hix : idx 34 (s.drop (i + 1)) with
        | none =>
          rw [hix] at hf
          constructor
          · intro _
            exact ⟨0, by rw [hJ]; exact .inr ⟨rfl, _, _, _, _, _, i, g1, rfl, hs, hf.symm, hg1, Sat.drop (A := (r, _) :: hp) h2⟩⟩
          · intro h
            simp [idxI] at h
        | some k =>
          rw [hix] at hf
          have hk := (idxGo_some hix).2
          rw [List.length_drop] at hk
          constructor
          · intro h
            simp [idxI] at h
            omega
          · intro _
            simp only [↓h2.ld0, idxI, Nat.reduceAdd, Nat.reduceLT, ↓E1, ↓E3]
            rw [wrap64_two (by omega), wrap64_nat (by omega)]
            refine h2.st rfl (by simp) rfl fun w5 h5 => ?_
            have h5 : Sat g1 w5 ((r, rdr s (i + (k + 2))) :: (hp ++ H)) := h5
            exact ⟨s.length - (i + (k + 2)), by rw [hJ]; exact .inl ⟨rfl, _, _, _, _, _, r, i + (k + 2), f, acc, g1, hp, rfl, hs, by omega, rfl, by omega, by omega, hf, hg1, hg, h5⟩⟩
      · intro hq
        rw [hq] at hf
        simp only [cond_false] at hf
        have hwl := word_lt he
        refine c_word hW hs he h2 fun g2 w5 hg2 h5 => ?_
        simp only [↓E1, ↓E2, ↓E3, List.getElem?_toArray]
        refine h5.al fun b9 w6 h6 => ?_
        refine h6.st (c := [i64 0, str [], i64 0]) rfl (by simp) rfl fun w7 h7 => ?_
        have h7 : Sat g2 w7 ((b9, .cells (tokCells (wordS s i).1.1).toArray 112) :: (r, rdr s (wordS s i).2) :: (hp ++ H)) := h7
        rw [cnd_eq]
        constructor
        · intro hwok
          rw [hwok] at hf
          simp only [cond_true] at hf
          refine h7.ldn0 (c := tokCells (wordS s i).1.1) rfl ?_
          refine h7.bs (cs := tokCells (wordS s i).1.1) rfl fun b2 w8 h8 => ?_
          have h8 : Sat g2 w8 ((b2, .cells (tokCells (wordS s i).1.1).toArray 112) :: (r, rdr s (wordS s i).2) :: (hp ++ H)) :=
            (h8.perm (List.Perm.swap _ _ _)).tail
          have h9 : Sat g2 w8 ((b2, .cells (tokCells (wordS s i).1.1).toArray 112) :: (hp ++ ((r, rdr s (wordS s i).2) :: H))) := h8.perm (.cons _ List.perm_middle.symm)
          refine Sat.ap1 (m := 1) (c := 1) h9 hg rfl rfl rfl (by omega) (by omega) fun v' hp2 w10 hg10 h10 => ?_
          have h10 : Sat g2 w10 ((r, rdr s (wordS s i).2) :: (hp2 ++ H)) := h10.perm List.perm_middle
          have hg10 : Grow 112 3 v' (acc ++ [(wordS s i).1.1]).length (toks (acc ++ [(wordS s i).1.1])) hp2 := by
            rw [toks_snoc]; simpa using hg10
          try simp only [↓E3]
          exact ⟨s.length - (wordS s i).2, by rw [hJ]; exact .inl ⟨rfl, _, _, _, _, v', r, (wordS s i).2, f, acc ++ [(wordS s i).1.1], g2, hp2, rfl, hs, by omega, rfl, by simp; omega, by omega, hf, hg1.trans hg2, hg10, h10⟩⟩
        · intro hwok
          rw [hwok] at hf
          simp only [cond_false] at hf
          rw [hv0]
          refine herr i 20 g2 w7 (hbad _ hf.symm) (hg1.trans hg2) ?_
          exact Sat.drop (A := (b9, _) :: (r, _) :: hp) h7
  · intro p hp m
    simp only [List.mem_cons, List.not_mem_nil, or_false] at hp
    rcases hp with rfl | rfl
    · intro x2 x3 x4 x5 x6 x7 w1 hJ2
      rw [hJ] at hJ2
      rcases hJ2 with ⟨_, x2, x3, x4, x7, v, r, i0, f, acc, g1, hp, he, hs, hi0, rfl, hal, hfl, hf, hg1, hg, h1⟩ | ⟨h, _⟩
      · simp only [List.cons.injEq, and_true] at he
        obtain ⟨rfl, rfl, rfl, rfl, rfl, rfl⟩ := he
        have hsh : Short s := by unfold Short; omega
        have hread := hread hs
        have hbad := hbad hs
        have hsk := skip_le (p := blankB) (s := s) (i := i0) hi0
        refine c_skip hsh hi0 h1 p_blank fun w2 h2 => ?_
        obtain ⟨i, hi⟩ : ∃ i, skipS blankB s i0 = i := ⟨_, rfl⟩
        rw [hi] at h2 hsk
        obtain ⟨f, rfl⟩ : ∃ f', f = f' + 1 := ⟨f - 1, by omega⟩
        have hstep : readGo (f + 1) s i0 acc = bif Nat.beq i s.length then .ok (acc ++ [⟨0, [], i⟩])
          else bif peekS s i == 34 then (match idx 34 (s.drop (i + 1)) with | none => .error i | some k => readGo f s (i + (k + 2)) acc)
          else bif (wordS s i).1.2 then readGo f s (wordS s i).2 (acc ++ [(wordS s i).1.1]) else .error i := by
          rw [← hi]; rfl
        rw [hstep] at hf
        simp only [↓E1, ↓E2, ↓E3, ↓h2.ld0, Nat.reduceAdd, Nat.reduceLT]
        rw [cnd_dec]
        constructor
        · intro he
          have he : i = s.length := by omega
          have hb : Nat.beq i s.length = true := by rw [he]; exact Nat.beq_refl _
          rw [hb] at hf
          simp only [cond_true] at hf
          refine bdI (cs := tokCells ⟨0, [], i⟩) rfl ?_
          refine h2.bs (cs := tokCells ⟨0, [], i⟩) rfl fun b2 w3 h3 => ?_
          have h4 : Sat g1 w3 ((b2, .cells (tokCells ⟨0, [], i⟩).toArray 112) :: (hp ++ ((r, rdr s i) :: H))) := h3.perm (.cons _ List.perm_middle.symm)
          refine Sat.ap1 (m := 1) (c := 1) h4 hg rfl rfl rfl (by omega) (by omega) fun v' hp2 w5 hg5 h5 => ?_
          obtain ⟨g2, hg2, h6, hsl⟩ := hg5.freeze h5
          refine hok (acc ++ [⟨0, [], i⟩]) g2 v' w5 (hread _ hf.symm) (hg1.trans hg2) h6.tail ?_
          have := toks_snoc acc ⟨0, [], i⟩
          rw [this]
          simpa using hsl
        · intro he
          have he : i < s.length := by omega
          have hb : Nat.beq i s.length = false := by
            cases h : Nat.beq i s.length with
            | false => rfl
            | true => have := Nat.eq_of_beq_eq_true h; omega
          rw [hb] at hf
          simp only [cond_false] at hf
          refine ⟨by omega, peekS s i, by simpa using peek_get he, ?_⟩
          rw [e34, byt_eq, cnd_eq]
          constructor
          · intro hq
            rw [hq] at hf
            simp only [cond_true] at hf
            rw [wrap64_succ (by omega), sl_lo]
            refine ⟨by omega, by omega, ?_⟩
            have hdr : (List.drop ((i + 1 : Nat) : Int).toNat s) = s.drop (i + 1) := rfl
            rw [hdr]
            apply c_indexByte
            simp only [↓E1, ↓E2, ↓E3]
            rw [cnd_dec]
            cases hix : idx 34 (s.drop (i + 1)) with
            | none =>
              rw [hix] at hf
              constructor
              · intro _
                exact ⟨0, by omega, by rw [hJ]; exact .inr ⟨rfl, _, _, _, _, _, i, g1, rfl, hs, hf.symm, hg1, Sat.drop (A := (r, _) :: hp) h2⟩⟩
              · intro h
                simp [idxI] at h
            | some k =>
              rw [hix] at hf
              have hk := (idxGo_some hix).2
              rw [List.length_drop] at hk
              constructor
              · intro h
                simp [idxI] at h
                omega
              · intro _
                simp only [↓h2.ld0, idxI, Nat.reduceAdd, Nat.reduceLT, ↓E1, ↓E3]
                rw [wrap64_two (by omega), wrap64_nat (by omega)]
                refine h2.st rfl (by simp) rfl fun w5 h5 => ?_
                have h5 : Sat g1 w5 ((r, rdr s (i + (k + 2))) :: (hp ++ H)) := h5
                exact ⟨s.length - (i + (k + 2)), by omega, by rw [hJ]; exact .inl ⟨rfl, _, _, _, _, _, r, i + (k + 2), f, acc, g1, hp, rfl, hs, by omega, rfl, by omega, by omega, hf, hg1, hg, h5⟩⟩
          · intro hq
            rw [hq] at hf
            simp only [cond_false] at hf
            have hwl := word_lt he
            refine c_word hW hs he h2 fun g2 w5 hg2 h5 => ?_
            simp only [↓E1, ↓E2, ↓E3, List.getElem?_toArray]
            refine h5.al fun b9 w6 h6 => ?_
            refine h6.st (c := [i64 0, str [], i64 0]) rfl (by simp) rfl fun w7 h7 => ?_
            have h7 : Sat g2 w7 ((b9, .cells (tokCells (wordS s i).1.1).toArray 112) :: (r, rdr s (wordS s i).2) :: (hp ++ H)) := h7
            rw [cnd_eq]
            constructor
            · intro hwok
              rw [hwok] at hf
              simp only [cond_true] at hf
              refine h7.ldn0 (c := tokCells (wordS s i).1.1) rfl ?_
              refine h7.bs (cs := tokCells (wordS s i).1.1) rfl fun b2 w8 h8 => ?_
              have h8 : Sat g2 w8 ((b2, .cells (tokCells (wordS s i).1.1).toArray 112) :: (r, rdr s (wordS s i).2) :: (hp ++ H)) :=
                (h8.perm (List.Perm.swap _ _ _)).tail
              have h9 : Sat g2 w8 ((b2, .cells (tokCells (wordS s i).1.1).toArray 112) :: (hp ++ ((r, rdr s (wordS s i).2) :: H))) := h8.perm (.cons _ List.perm_middle.symm)
              refine Sat.ap1 (m := 1) (c := 1) h9 hg rfl rfl rfl (by omega) (by omega) fun v' hp2 w10 hg10 h10 => ?_
              have h10 : Sat g2 w10 ((r, rdr s (wordS s i).2) :: (hp2 ++ H)) := h10.perm List.perm_middle
              have hg10 : Grow 112 3 v' (acc ++ [(wordS s i).1.1]).length (toks (acc ++ [(wordS s i).1.1])) hp2 := by
                rw [toks_snoc]; simpa using hg10
              try simp only [↓E3]
              exact ⟨s.length - (wordS s i).2, by omega, by rw [hJ]; exact .inl ⟨rfl, _, _, _, _, v', r, (wordS s i).2, f, acc ++ [(wordS s i).1.1], g2, hp2, rfl, hs, by omega, rfl, by simp; omega, by omega, hf, hg1.trans hg2, hg10, h10⟩⟩
            · intro hwok
              rw [hwok] at hf
              simp only [cond_false] at hf
              refine herr i 20 g2 w7 (hbad _ hf.symm) (hg1.trans hg2) ?_
              exact Sat.drop (A := (b9, _) :: (r, _) :: hp) h7
      · simp at h
    · intro x2 x3 x4 x5 x6 x7 w1 hJ2
      rw [hJ] at hJ2
      rcases hJ2 with ⟨h, _⟩ | ⟨_, x2, x3, x4, x5, x6, i, g1, he, hs, hf, hg1, h1⟩
      · simp at h
      · simp only [List.cons.injEq, and_true] at he
        obtain ⟨rfl, rfl, rfl, rfl, rfl, rfl⟩ := he
        exact herr i 20 g1 w1 (hbad hs _ hf) hg1 h1
end Go.Vx
namespace Go.Vx
open Go Go.Proofs
variable {R : Ending → World → Prop} {g : G} {w : World} {H hp : Hp}

/-- A part's cells. -/
inductive NodeR (g : G) : List Value → Node → Prop
  | mk {kind pos n : Nat} {text : List UInt8} {names : List (List UInt8)} {kids : List Node} {nv kv : Value} {kcs : List (List Value)} (h1 : Sl g 1 nv names.length (names.map str)) (h2 : Sl g 6 kv kids.length kcs.flatten)
      (h3 : kcs.length = kids.length) (h4 : ∀ (i : Nat) (c : List Value) (k : Node), kcs[i]? = some c → kids[i]? = some k → NodeR g c k) :
      NodeR g [i64 (kind : Int), str text, i64 (pos : Int), i64 (n : Int), nv, kv] (.mk kind text pos n names kids)

theorem NodeR.mono {g g' : G} (hg : g.le g') {c : List Value} {n : Node} (h : NodeR g c n) : NodeR g' c n := by
  induction h with
  | mk h1 h2 h3 _ ih => exact .mk (h1.mono hg) (h2.mono hg) h3 ih

theorem NodeR.len {c : List Value} {n : Node} (h : NodeR g c n) : c.length = 6 := by cases h; rfl
theorem Sl.one {sz n : Nat} {v : Value} {cs : List Value} (h : Sl g sz v n cs) : one v = true := by obtain ⟨a, c, rfl, _⟩ := h; rfl
theorem NodeR.one {c : List Value} {n : Node} (h : NodeR g c n) : allOne c = true := by
  cases h with
  | mk h1 h2 _ _ =>
    simp only [allOne, h1.one, h2.one]
    rfl

/-- Parts side by side. -/
def KR (g : G) (kcs : List (List Value)) (kids : List Node) : Prop := kcs.length = kids.length ∧ ∀ (i : Nat) (c : List Value) (k : Node), kcs[i]? = some c → kids[i]? = some k → NodeR g c k
theorem KR.mono {g g' : G} (hg : g.le g') {a : List (List Value)} {b : List Node} (h : KR g a b) : KR g' a b := ⟨h.1, fun i c k h1 h2 => (h.2 i c k h1 h2).mono hg⟩
theorem KR.nil : KR g [] [] := ⟨rfl, fun i c k h => by simp at h⟩
theorem KR.snoc {a : List (List Value)} {b : List Node} {c : List Value} {k : Node} (h : KR g a b) (hk : NodeR g c k) : KR g (a ++ [c]) (b ++ [k]) := by
  refine ⟨by simp [h.1], fun i c' k' h1 h2 => ?_⟩
  rw [List.getElem?_append] at h1 h2
  by_cases hi : i < a.length
  · rw [if_pos hi] at h1
    rw [if_pos (by rw [← h.1]; exact hi)] at h2
    exact h.2 i c' k' h1 h2
  · rw [if_neg hi] at h1
    rw [if_neg (by rw [← h.1]; exact hi), ← h.1] at h2
    cases hj : i - a.length with
    | zero =>
      rw [hj] at h1 h2
      simp at h1 h2
      subst h1 h2
      exact hk
    | succ j => rw [hj] at h1; simp at h1
theorem KR.cons {a : List (List Value)} {b : List Node} {c : List Value} {k : Node} (h : KR g a b) (hk : NodeR g c k) : KR g (c :: a) (k :: b) := by
  refine ⟨by simp [h.1], fun i c' k' h1 h2 => ?_⟩
  cases i with
  | zero => simp at h1 h2; subst h1 h2; exact hk
  | succ i => exact h.2 i c' k' (by simpa using h1) (by simpa using h2)
theorem KR.flat {a : List (List Value)} {b : List Node} (h : KR g a b) : a.flatten.length = b.length * 6 := by
  obtain ⟨h1, h2⟩ := h
  induction a generalizing b with
  | nil => cases b with
    | nil => rfl
    | cons k b => simp at h1
  | cons c a ih =>
    cases b with
    | nil => simp at h1
    | cons k b =>
      have h3 := ih (b := b) (by simpa using h1) (fun i c' k' h4 h5 => h2 (i + 1) c' k' (by simpa using h4) (by simpa using h5))
      have h4 := (h2 0 c k rfl rfl).len
      simp only [List.flatten_cons, List.length_append, h3, h4, List.length_cons]
      omega
theorem KR.one {a : List (List Value)} {b : List Node} (h : KR g a b) : allOne a.flatten = true := by
  obtain ⟨h1, h2⟩ := h
  have app : ∀ x y : List Value, allOne x = true → allOne y = true → allOne (x ++ y) = true := by
    intro x y
    induction x with
    | nil => intro _ h; exact h
    | cons v x ih => intro h h'; simp only [allOne, Bool.and_eq_true, List.cons_append] at *; exact ⟨h.1, ih h.2 h'⟩
  induction a generalizing b with
  | nil => rfl
  | cons c a ih =>
    cases b with
    | nil => simp at h1
    | cons k b =>
      have h3 := ih (b := b) (by simpa using h1) (fun i c' k' h4 h5 => h2 (i + 1) c' k' (by simpa using h4) (by simpa using h5))
      exact app _ _ (h2 0 c k rfl rfl).one h3

/-- Words that end. -/
structure WFL (l : List Tok) : Prop where
  last : ∃ init t, l = init ++ [t] ∧ t.kind = 0
  text : ∀ t ∈ l, t.text.length ≤ 4096
  len : l.length ≤ 4097

theorem WFL.pos {l : List Tok} (h : WFL l) : 0 < l.length := by
  obtain ⟨i, t, rfl, _⟩ := h.last
  simp
theorem WFL.tail {l : List Tok} (h : WFL l) (hk : Nat.beq (kd l) 0 = false) : WFL l.tail := by
  obtain ⟨i, t, rfl, ht⟩ := h.last
  cases i with
  | nil =>
    simp only [List.nil_append] at hk
    have : kd [t] = 0 := ht
    rw [this] at hk
    simp at hk
  | cons a i =>
    refine ⟨⟨i, t, rfl, ht⟩, fun x hx => h.text x (by simp at hx ⊢; exact .inr hx), ?_⟩
    have := h.len
    simp at this ⊢
    omega
theorem WFL.tk {l : List Tok} (h : WFL l) : WFL (tk l) := by
  unfold Vx.tk
  cases hk : Nat.beq (kd l) 0
  · exact h.tail hk
  · exact h
theorem WFL.hd {l : List Tok} (h : WFL l) : l[0]? = some (hd l) ∧ (Vx.hd l).text.length ≤ 4096 := by
  obtain ⟨i, t, rfl, ht⟩ := h.last
  cases i with
  | nil => exact ⟨rfl, h.text t (by simp)⟩
  | cons a i => exact ⟨rfl, h.text a (by simp)⟩

/-- A parser's block. -/
abbrev prs (v : Value) (d : Nat) : Obj := .cells [v, i64 (d : Int)].toArray Ty.tree_parser

/-- What somebody who gives up leaves. -/
def stopE (p e : Nat) : List PanicEntry := [{ v := .iface Ty.tree_stop (.agg #[i64 (p : Int), i64 (e : Int)]), recovered := false }]

abbrev TS (g : G) (v : Value) (l : List Tok) : Prop := Sl g 3 v l.length (toks l)

theorem toks_at {l : List Tok} {j : Nat} {t : Tok} (h : l[j]? = some t) : ((toks l).drop (j * 3)).take 3 = tokCells t := by
  induction l generalizing j with
  | nil => simp at h
  | cons a l ih =>
    cases j with
    | zero =>
      simp only [List.getElem?_cons_zero, Option.some.injEq] at h
      subst h
      rfl
    | succ j =>
      have := ih (j := j) (by simpa using h)
      rw [show (j + 1) * 3 = 3 + j * 3 from by omega, ← List.drop_drop]
      exact this

/-- A word of those that stay. -/
theorem TS.at {v : Value} {l : List Tok} (hT : TS g v l) (hS : Sat g w H) {j : Nat} {t : Tok} (hj : l[j]? = some t) {K : Value → World → Prop}
    (hk : ∀ b o, g.cell? b o = some (i64 (t.kind : Int)) → g.cell? b (o + 1) = some (str t.text) → g.cell? b (o + 2) = some (i64 (t.pos : Int)) → K (ptr b o) w) : ia 3 v (i64 (j : Int)) K w := by
  refine Sl.at hT hS (List.getElem?_eq_some_iff.1 hj).1 (by decide) fun b o h => ?_
  rw [toks_at hj] at h
  exact hk b o (by simpa using h 0 _ rfl) (h 1 _ rfl) (h 2 _ rfl)

theorem c_kind {p : Nat} {v : Value} {l : List Tok} {d : Nat} (hl : WFL l) (hT : TS g v l) (hS : Sat g w ((p, prs v d) :: H)) (hR : R (.returned (i64 (kd l : Int))) w) : Tr P F.tree_parser_kind [ptr p 0] w R := by
  apply t_tree_parser_kind
  unfold d_tree_parser_kind
  simp only [↓E1, ↓E2, ↓E3, ↓hS.ld0, Nat.reduceAdd, Nat.reduceLT]
  refine TS.at hT (j := 0) hS hl.hd.1 fun b o h1 _ _ => ?_
  simp only [↓E1, Nat.add_zero]
  rw [hS.ldI h1]
  exact hR

theorem c_bad {p : Nat} {v : Value} {l : List Tok} {d : Nat} {e : Nat} (hl : WFL l) (hT : TS g v l) (hS : Sat g w ((p, prs v d) :: H)) (hR : R (.panicked (stopE (hd l).pos e)) w) : Tr P F.tree_parser_bad [ptr p 0, i64 (e : Int)] w R := by
  apply t_tree_parser_bad
  unfold d_tree_parser_bad
  simp only [↓E1, ↓E2, ↓E3, ↓hS.ld0, Nat.reduceAdd, Nat.reduceLT]
  refine TS.at hT (j := 0) hS hl.hd.1 fun b o _ _ h3 => ?_
  simp only [↓E1]
  rw [hS.ldI h3]
  refine bdI (cs := [i64 ((hd l).pos : Int), i64 (e : Int)]) rfl ?_
  exact hR

theorem Sl.from1 {a : Option Addr} {n c sz : Nat} {cs : List Value} (h : Sl g sz (.slice a n c) n cs) (hn : 1 ≤ n) (hsz : 0 < sz) :
    Sl g sz (.slice (if (c : Int) = 1 then a else a.map (·.add ((1 : Int).toNat * sz))) (n - (1 : Int).toNat) (c - (1 : Int).toNat)) (n - 1) (cs.drop sz) := by
  obtain ⟨a', c', he, h2, h3, h4⟩ := h
  injection he with e1 _ e3
  subst e1 e3
  have hlen : (cs.drop sz).length = (n - 1) * sz := by
    rw [List.length_drop, h3, Nat.sub_mul, Nat.one_mul]
  refine ⟨_, _, rfl, by show n - 1 ≤ c - 1; omega, hlen, ?_⟩
  by_cases hc : (c : Int) = 1
  · have hn1 : n = 1 := by omega
    subst hn1
    have : cs.drop sz = [] := List.eq_nil_of_length_eq_zero (by rw [hlen]; simp)
    rw [this, if_pos hc]
    rcases h4 with ⟨h4, _⟩ | ⟨b, o, h5, _⟩
    · exact .inl ⟨h4, rfl⟩
    · exact .inr ⟨b, o, h5, fun j x hx => by simp at hx⟩
  · rw [if_neg hc]
    rcases h4 with ⟨h4, h5⟩ | ⟨b, o, h5, h6⟩
    · subst h4 h5; exact .inl ⟨rfl, by simp⟩
    · refine .inr ⟨b, o + sz, ?_, fun j x hx => ?_⟩
      · rw [h5]
        show some ((⟨b, o, none⟩ : Addr).add (1 * sz)) = _
        rw [Nat.one_mul, add_plain]
      · rw [List.getElem?_drop] at hx
        have := h6 _ _ hx
        rw [← Nat.add_assoc] at this
        exact this

theorem toks_drop (l : List Tok) : (toks l).drop 3 = toks l.tail := by
  cases l with
  | nil => rfl
  | cons t l => rfl

theorem c_take {p : Nat} {v : Value} {l : List Tok} {d : Nat} (hl : WFL l) (hT : TS g v l) (hS : Sat g w ((p, prs v d) :: H))
    (hR : ∀ v' w', TS g v' (tk l) → Sat g w' ((p, prs v' d) :: H) → R (.returned (tokV (hd l))) w') : Tr P F.tree_parser_take [ptr p 0] w R := by
  apply t_tree_parser_take
  unfold d_tree_parser_take
  refine hS.al fun b2 w1 h1 => ?_
  have h1 := h1.swap2
  simp only [↓E1, ↓E2, ↓E3, ↓h1.ld0, Nat.reduceAdd, Nat.reduceLT]
  refine TS.at hT (j := 0) h1 hl.hd.1 fun b o c0 c1 c2 => ?_
  refine h1.ldnI (vs := tokCells (hd l)) (fun j x hx => ?_) ?_
  · match j, hx with
    | 0, hx => simp [tokCells] at hx; subst hx; exact c0
    | 1, hx => simp [tokCells] at hx; subst hx; exact c1
    | 2, hx => simp [tokCells] at hx; subst hx; exact c2
    | j + 3, hx => simp [tokCells] at hx
  refine h1.al fun b3 w2 h2 => ?_
  refine h2.st (c := [i64 0, str [], i64 0]) rfl (by simp) rfl fun w3 h3 => ?_
  have h3 : Sat g w3 ((b3, .cells (tokCells (hd l)).toArray 112) :: (p, prs v d) :: (b2, .cells [i64 0, str [], i64 0].toArray 112) :: H) := h3
  -- at the end
  have fin : ∀ v' w4, TS g v' (tk l) → Sat g w4 ((b3, .cells (tokCells (hd l)).toArray 112) :: (p, prs v' d) :: (b2, .cells [i64 0, str [], i64 0].toArray 112) :: H) →
      ldn 3 (ptr b3 0) (fun t21 w => st 3 (ptr b2 0) t21 (fun w => ldn 3 (ptr b2 0) (fun r0 w => R (.returned r0) w) w) w) w4 := by
    intro v' w4 hT' h4
    refine h4.ldn0 (c := tokCells (hd l)) rfl ?_
    have h5 : Sat g w4 ((b2, .cells [i64 0, str [], i64 0].toArray 112) :: (b3, .cells (tokCells (hd l)).toArray 112) :: (p, prs v' d) :: H) := h4.perm (List.perm_middle (l₁ := [(b3, _), (p, _)]))
    refine h5.st (c := [i64 0, str [], i64 0]) rfl (by simp) rfl fun w6 h6 => ?_
    have h6 : Sat g w6 ((b2, .cells (tokCells (hd l)).toArray 112) :: (b3, .cells (tokCells (hd l)).toArray 112) :: (p, prs v' d) :: H) := h6
    refine h6.ldn0 (c := tokCells (hd l)) rfl ?_
    exact hR v' w6 hT' h6.tail.tail
  simp only [↓E1, Nat.reduceAdd]
  rw [h3.ld0 0 _ (by simp [tokCells])]
  simp only [↓E1, ↓E2, tokCells, ↓E3]
  rw [cnd_ndec]
  constructor
  · intro hk
    have hb : Nat.beq (kd l) 0 = false := by
      cases hb : Nat.beq (kd l) 0 with
      | false => rfl
      | true => exact absurd (by have := Nat.eq_of_beq_eq_true hb; show ((kd l : Nat) : Int) = 0; omega) hk
    have htk : tk l = l.tail := by unfold tk; rw [hb]; rfl
    simp only [↓h3.ld1, ↓E1, ↓E3, Nat.reduceAdd, Nat.reduceLT]
    obtain ⟨a, c, he, h2', h3', h4'⟩ := id hT
    subst he
    have hpos := hl.pos
    refine slL_lo 3 a l.length c _ 1 (by omega) (by omega) h2' ?_
    have hfr := Sl.from1 hT hpos (by decide)
    rw [toks_drop, show l.length - 1 = l.tail.length from by simp] at hfr
    refine h3.swap2.st (c := [.slice a l.length c, i64 (d : Int)]) rfl (by simp) rfl fun w4 h4 => ?_
    refine fin _ w4 ?_ (Sat.swap2 h4)
    rw [htk]
    exact hfr
  · intro hk
    have hb : Nat.beq (kd l) 0 = true := by
      have : kd l = 0 := by have h : ((kd l : Nat) : Int) = 0 := hk; omega
      rw [this]; rfl
    have htk : tk l = l := by unfold tk; rw [hb]; rfl
    refine fin v w3 (by rw [htk]; exact hT) h3

theorem c_need {p : Nat} {v : Value} {l : List Tok} {d k : Nat} (hl : WFL l) (hT : TS g v l) (hS : Sat g w ((p, prs v d) :: H))
    (hok : ∀ v' w', needS k l = .ok (hd l) (tk l) → TS g v' (tk l) → Sat g w' ((p, prs v' d) :: H) → R (.returned (tokV (hd l))) w')
    (hbad : ∀ w', needS k l = .bad (hd l).pos 20 → Sat g w' ((p, prs v d) :: H) → R (.panicked (stopE (hd l).pos 20)) w') : Tr P F.tree_parser_need [ptr p 0, i64 (k : Int)] w R := by
  apply t_tree_parser_need
  unfold d_tree_parser_need
  refine hS.al fun b2 w1 h1 => ?_
  have h1 := h1.swap2
  simp only [↓E2]
  refine c_kind hl hT h1 ?_
  simp only [↓E1, ↓E3]
  rw [cnd_ndec]
  constructor
  · intro hne
    have hb : needS k l = .bad (hd l).pos 20 := by
      unfold needS
      have : Nat.beq (kd l) k = false := by
        cases hb : Nat.beq (kd l) k with
        | false => rfl
        | true => exact absurd (by have := Nat.eq_of_beq_eq_true hb; omega) hne
      rw [this]; rfl
    refine c_bad hl hT h1 ?_
    exact hbad _ hb (Sat.tail h1.swap2)
  · intro he
    have hb : needS k l = .ok (hd l) (tk l) := by
      unfold needS
      have : kd l = k := by omega
      rw [this, Nat.beq_refl]; rfl
    refine c_take hl hT h1 fun v' w2 hT' h2 => ?_
    simp only [↓E3]
    have h3 := h2.swap2
    refine h3.st (c := [i64 0, str [], i64 0]) rfl (by simp) rfl fun w4 h4 => ?_
    have h4 : Sat g w4 ((b2, .cells (tokCells (hd l)).toArray 112) :: (p, prs v' d) :: H) := h4
    refine h4.ldn0 (c := tokCells (hd l)) rfl ?_
    exact hok v' w4 hb hT' h4.tail
end Go.Vx
namespace Go.Vx

theorem cut_len (s : List UInt8) (i j : Nat) : (cut s i j).length ≤ s.length := by
  unfold cut
  rw [List.length_take, List.length_drop]
  omega

theorem quo_len {s : List UInt8} : ∀ {f i : Nat} {acc : List UInt8}, (quoGo f s i acc).1.1.length ≤ acc.length + (s.length - i) := by
  intro f
  induction f with
  | zero => intro i acc; simp [quoGo]
  | succ f ih =>
    intro i acc
    simp only [quoGo]
    cases hc : s[i]? with
    | none => simp
    | some c =>
      have hlt := (List.getElem?_eq_some_iff.1 hc).1
      cases h1 : (c == 39)
      · simp only [h1, cond_false]
        have := ih (i := i + 1) (acc := acc ++ [c])
        simp only [List.length_append, List.length_cons, List.length_nil] at this
        omega
      · cases h2 : (peekS s (i + 1) == 39)
        · simp only [h1, h2, cond_true, cond_false]; omega
        · simp only [h1, h2, cond_true]
          have := ih (i := i + 2) (acc := acc ++ [39])
          simp only [List.length_append, List.length_cons, List.length_nil] at this
          omega
theorem quoted_len (s : List UInt8) (i : Nat) : (quotedS s i).1.1.length ≤ s.length := by
  unfold quotedS
  cases (peekS s i == 39)
  · simp
  · simp only [cond_true]
    have := quo_len (s := s) (f := s.length + 1) (i := i + 1) (acc := [])
    simp only [List.length_nil] at this
    omega
theorem symbol_len (s : List UInt8) (i : Nat) : (symbolS s i).1.1.length ≤ s.length := by
  unfold symbolS
  cases (nameS s i).1
  · simp only [cond_false]
    cases Nat.blt i (signS s i)
    · exact quoted_len s i
    · exact cut_len _ _ _
  · exact cut_len _ _ _
theorem word_len (s : List UInt8) (i : Nat) : (wordS s i).1.1.text.length ≤ s.length := by
  unfold wordS
  simp only []
  cases letterB (peekS s i)
  · cases digitB (peekS s i)
    · cases (peekS s i == 39)
      · cases (peekS s i == 35 && peekS s (i + 1) == 40)
        · cases (peekS s i == 35)
          · cases (peekS s i == 58 && peekS s (i + 1) == 61)
            · cases (peekS s i == 58)
              · cases Nat.blt i (signS s i)
                · simp only [cond_true, cond_false]
                  cases idx (peekS s i) singleL <;> exact cut_len _ _ _
                · exact cut_len _ _ _
              · exact cut_len _ _ _
            · exact cut_len _ _ _
          · exact symbol_len _ _
        · exact cut_len _ _ _
      · exact quoted_len _ _
    · exact cut_len _ _ _
  · simp only [cond_true]
    cases colonS s (nameS s i).2 <;> exact cut_len _ _ _

theorem read_wf {s : List UInt8} (hs : s.length ≤ 4096) : ∀ {f i : Nat} {acc l : List Tok}, readGo f s i acc = .ok l → i ≤ s.length → acc.length ≤ i → (∀ t ∈ acc, t.text.length ≤ 4096) → WFL l := by
  intro f
  induction f with
  | zero => intro i acc l h; simp [readGo] at h
  | succ f ih =>
    intro i acc l h hi ha ht
    simp only [readGo] at h
    have hsk := skip_le (p := blankB) (s := s) (i := i) hi
    generalize skipS blankB s i = j at h hsk
    rcases cond_or h with ⟨h1, h2⟩ | ⟨h1, h⟩
    · injection h2 with h2
      subst h2
      refine ⟨⟨acc, _, rfl, rfl⟩, fun t hm => ?_, by simp; omega⟩
      rcases List.mem_append.1 hm with hm | hm
      · exact ht t hm
      · simp only [List.mem_singleton] at hm
        subst hm
        simp
    · have hj : j < s.length := by
        have : j ≠ s.length := fun e => by rw [e, Nat.beq_refl] at h1; simp at h1
        omega
      rcases cond_or h with ⟨h2, h3⟩ | ⟨h2, h⟩
      · cases hix : idx 34 (s.drop (j + 1)) with
        | none => rw [hix] at h3; simp at h3
        | some k =>
          rw [hix] at h3
          have hk := (idxGo_some hix).2
          rw [List.length_drop] at hk
          exact ih h3 (by omega) (by omega) ht
      · rcases cond_or h with ⟨h3, h4⟩ | ⟨h3, h4⟩
        · have hw := word_lt hj
          refine ih h4 hw.2 (by simp; omega) fun t hm => ?_
          rcases List.mem_append.1 hm with hm | hm
          · exact ht t hm
          · simp only [List.mem_singleton] at hm
            subst hm
            have := word_len s j
            omega
        · simp at h4
theorem readS_wf {s : List UInt8} {l : List Tok} (h : readS s = .ok l) : WFL l := by
  unfold readS at h
  rcases cond_or h with ⟨_, h2⟩ | ⟨h1, h2⟩
  · simp at h2
  · have hs : s.length ≤ 4096 := by
      rcases Nat.lt_or_ge 4096 s.length with h | h
      · rw [← Nat.blt_eq] at h; rw [h] at h1; simp at h1
      · exact h
    cases hr : readGo (s.length + 1) s 0 [] with
    | ok x =>
      rw [hr] at h2
      injection h2 with h2
      subst h2
      exact read_wf hs hr (by omega) (by simp) (fun t ht => by simp at ht)
    | error x => rw [hr] at h2; simp at h2
end Go.Vx
namespace Go.Vx

/-! ### Names, signs -/
def IsName (t : List UInt8) : Prop := ∃ c r, t = c :: r ∧ letterB c = true ∧ ∀ x ∈ r, idB x = true
def IsSign (t : List UInt8) : Prop := ∃ c r, t = c :: r ∧ ∀ x ∈ t, signB x = true
def TokOK (t : Tok) : Prop := (t.kind = 1 → IsName t.text) ∧ (t.kind = 2 → ∃ n, IsName n ∧ t.text = n ++ [58]) ∧ (t.kind = 3 → IsSign t.text)
def TL (l : List Tok) : Prop := ∀ t ∈ l, TokOK t

theorem letter_id {c : UInt8} (h : letterB c = true) : idB c = true := by simp [idB, h]
theorem scan_take (p : UInt8 → Bool) (l : List UInt8) : (∀ x ∈ l.take (scan p l), p x = true) ∧ scan p l ≤ l.length := by
  induction l with
  | nil => simp [scan]
  | cons c l ih =>
    simp only [scan]
    cases hp : p c
    · simp
    · simp only [cond_true, List.take_succ_cons, List.length_cons]
      refine ⟨fun x hx => ?_, by omega⟩
      rcases List.mem_cons.1 hx with rfl | hx
      · exact hp
      · exact ih.1 x hx
theorem isAt_some {p : UInt8 → Bool} {s : List UInt8} {i : Nat} (h : isAt p s i = true) : ∃ c, s[i]? = some c ∧ p c = true := by
  unfold isAt at h
  cases hc : s[i]? with
  | none => rw [hc] at h; simp at h
  | some c => rw [hc] at h; exact ⟨c, rfl, h⟩
theorem drop_of {s : List UInt8} {i : Nat} {c : UInt8} (h : s[i]? = some c) : s.drop i = c :: s.drop (i + 1) := by
  rw [List.drop_eq_getElem_cons (List.getElem?_eq_some_iff.1 h).1, (List.getElem?_eq_some_iff.1 h).2]
theorem name_cut {s : List UInt8} {i : Nat} (h : isAt letterB s i = true) : (nameS s i).2 = i + scan idB (s.drop i) ∧ IsName (cut s i (i + scan idB (s.drop i))) := by
  obtain ⟨c, hc, hl⟩ := isAt_some h
  refine ⟨by unfold nameS skipS; rw [h]; rfl, ?_⟩
  unfold cut
  have e : i + scan idB (s.drop i) - i = scan idB (s.drop i) := by omega
  rw [e]
  have ht := (scan_take idB (s.drop i)).1
  rw [drop_of hc] at ht ⊢
  simp only [scan, letter_id hl, cond_true, List.take_succ_cons] at ht ⊢
  exact ⟨c, _, rfl, hl, fun x hx => ht x (by simp [hx])⟩
theorem peek_some {s : List UInt8} {i : Nat} (h : peekS s i ≠ 0) : s[i]? = some (peekS s i) := by
  unfold peekS at h ⊢
  rw [List.getD_eq_getElem?_getD] at h ⊢
  cases hc : s[i]? with
  | none => rw [hc] at h; simp at h
  | some c => rfl
theorem cut_snoc {s : List UInt8} {i j : Nat} {c : UInt8} (hij : i ≤ j) (hc : s[j]? = some c) : cut s i (j + 1) = cut s i j ++ [c] := by
  unfold cut
  have e : j + 1 - i = (j - i) + 1 := by omega
  rw [e, List.take_add_one, List.getElem?_drop, show i + (j - i) = j from by omega, hc]
  rfl

theorem sign_cut {s : List UInt8} {i : Nat} (h : Nat.blt i (signS s i) = true) : IsSign (cut s i (signS s i)) := by
  unfold signS at h ⊢
  cases h1 : isAt signB s i
  · rw [h1] at h
    simp at h
  · simp only [cond_true]
    obtain ⟨c, hc, hs⟩ := isAt_some h1
    have e1 : cut s i (i + 1) = [c] := by
      rw [cut_snoc (Nat.le_refl _) hc]
      unfold cut
      simp
    cases h2 : isAt signB s (i + 1)
    · simp only [cond_false, e1]
      exact ⟨c, [], rfl, fun x hx => by rw [List.mem_singleton.1 hx]; exact hs⟩
    · obtain ⟨d, hd, hs2⟩ := isAt_some h2
      simp only [cond_true]
      rw [cut_snoc (by omega) hd, e1]
      refine ⟨c, [d], rfl, fun x hx => ?_⟩
      simp only [List.cons_append, List.nil_append, List.mem_cons, List.mem_nil_iff, or_false] at hx
      rcases hx with rfl | rfl
      · exact hs
      · exact hs2

theorem tok_other {k p : Nat} {t : List UInt8} (h1 : k ≠ 1) (h2 : k ≠ 2) (h3 : k ≠ 3) : TokOK ⟨k, t, p⟩ := ⟨fun h => absurd h h1, fun h => absurd h h2, fun h => absurd h h3⟩
theorem word_tok (s : List UInt8) (i : Nat) : TokOK (wordS s i).1.1 := by
  unfold wordS
  simp only []
  cases hl : letterB (peekS s i)
  · cases digitB (peekS s i)
    · cases (peekS s i == 39)
      · cases (peekS s i == 35 && peekS s (i + 1) == 40)
        · cases (peekS s i == 35)
          · cases (peekS s i == 58 && peekS s (i + 1) == 61)
            · cases (peekS s i == 58)
              · cases hs : Nat.blt i (signS s i)
                · simp only [cond_true, cond_false]
                  cases idx (peekS s i) singleL with
                  | none => exact tok_other (by omega) (by omega) (by omega)
                  | some k => exact tok_other (by omega) (by omega) (by omega)
                · simp only [cond_true, cond_false]
                  exact ⟨fun h => by simp at h, fun h => by simp at h, fun _ => sign_cut hs⟩
              · exact tok_other (by decide) (by decide) (by decide)
            · exact tok_other (by decide) (by decide) (by decide)
          · exact tok_other (by decide) (by decide) (by decide)
        · exact tok_other (by decide) (by decide) (by decide)
      · exact tok_other (by decide) (by decide) (by decide)
    · exact tok_other (by decide) (by decide) (by decide)
  · simp only [cond_true]
    have hne : peekS s i ≠ 0 := fun e => by rw [e] at hl; simp [letterB] at hl
    have hat : isAt letterB s i = true := by
      unfold isAt
      rw [peek_some hne]
      exact hl
    obtain ⟨h1, h2⟩ := name_cut hat
    rw [h1]
    cases hc : colonS s (i + scan idB (s.drop i))
    · simp only [cond_false]
      exact ⟨fun _ => h2, fun h => by simp at h, fun h => by simp at h⟩
    · simp only [cond_true]
      refine ⟨fun h => by simp at h, fun _ => ⟨_, h2, ?_⟩, fun h => by simp at h⟩
      have hp : peekS s (i + scan idB (s.drop i)) = 58 := by
        unfold colonS at hc
        simp only [Bool.and_eq_true, beq_iff_eq] at hc
        exact hc.1
      have := peek_some (s := s) (i := i + scan idB (s.drop i)) (by rw [hp]; decide)
      rw [hp] at this
      exact cut_snoc (by omega) this

theorem read_tok {s : List UInt8} : ∀ {f i : Nat} {acc l : List Tok}, readGo f s i acc = .ok l → TL acc → TL l := by
  intro f
  induction f with
  | zero => intro i acc l h; simp [readGo] at h
  | succ f ih =>
    intro i acc l h ht
    simp only [readGo] at h
    generalize skipS blankB s i = j at h
    have app : ∀ {t : Tok}, TokOK t → TL (acc ++ [t]) := fun h x hx => by
      rcases List.mem_append.1 hx with hx | hx
      · exact ht x hx
      · rw [List.mem_singleton.1 hx]; exact h
    rcases cond_or h with ⟨h1, h2⟩ | ⟨h1, h⟩
    · injection h2 with h2
      subst h2
      exact app (tok_other (by decide) (by decide) (by decide))
    · rcases cond_or h with ⟨h2, h3⟩ | ⟨h2, h⟩
      · cases hix : idx 34 (s.drop (j + 1)) with
        | none => rw [hix] at h3; simp at h3
        | some k =>
          rw [hix] at h3
          exact ih h3 ht
      · rcases cond_or h with ⟨h3, h4⟩ | ⟨h3, h4⟩
        · exact ih h4 (app (word_tok s j))
        · simp at h4
theorem readS_tok {s : List UInt8} {l : List Tok} (h : readS s = .ok l) : TL l := by
  unfold readS at h
  rcases cond_or h with ⟨_, h2⟩ | ⟨h1, h2⟩
  · simp at h2
  · cases hr : readGo (s.length + 1) s 0 [] with
    | ok x =>
      rw [hr] at h2
      injection h2 with h2
      subst h2
      exact read_tok hr (fun t ht => by simp at ht)
    | error x => rw [hr] at h2; simp at h2

/-! ### How many arguments -/
def plainB (t : List UInt8) : Bool := (nameS t 0).1 && Nat.beq (nameS t 0).2 t.length
def cnt58 : List UInt8 → Nat
  | [] => 0
  | c :: l => (bif c == 58 then 1 else 0) + cnt58 l
def argsS (t : List UInt8) : Nat := bif plainB t then 0 else bif t.isEmpty || plainB (t.take 1) then cnt58 t else 1
def SelOK (t : List UInt8) (n : Nat) : Prop := argsS t = n ∧ ∀ c ∈ t, c < 128

theorem scan_all {p : UInt8 → Bool} {l : List UInt8} (h : ∀ x ∈ l, p x = true) : scan p l = l.length := by
  induction l with
  | nil => rfl
  | cons c l ih =>
    simp only [scan, h c (by simp), cond_true, List.length_cons]
    rw [ih fun x hx => h x (by simp [hx])]
theorem scan_not {p : UInt8 → Bool} {l : List UInt8} {c : UInt8} (hm : c ∈ l) (hc : p c = false) : scan p l < l.length := by
  induction l with
  | nil => simp at hm
  | cons x l ih =>
    simp only [scan, List.length_cons]
    cases hx : p x
    · simp
    · simp only [cond_true]
      rcases List.mem_cons.1 hm with rfl | hm
      · rw [hc] at hx; simp at hx
      · have := ih hm; omega
theorem plain_name {t : List UInt8} (h : IsName t) : plainB t = true := by
  obtain ⟨c, r, rfl, h1, h2⟩ := h
  have e : isAt letterB (c :: r) 0 = true := h1
  unfold plainB nameS skipS
  rw [e]
  have := scan_all (p := idB) (l := c :: r) (fun x hx => by
    rcases List.mem_cons.1 hx with rfl | hx
    · exact letter_id h1
    · exact h2 x hx)
  simp [this]
theorem plain_not {t : List UInt8} {c : UInt8} (hm : c ∈ t) (hc : idB c = false) : plainB t = false := by
  unfold plainB nameS skipS
  cases isAt letterB t 0
  · rfl
  · have := scan_not hm hc
    simp only [cond_true, List.drop_zero, Nat.zero_add, Bool.true_and]
    cases hb : Nat.beq (scan idB t) t.length with
    | false => rfl
    | true => have := Nat.eq_of_beq_eq_true hb; omega
theorem letter_lt {c : UInt8} (h : letterB c = true) : c < 128 := by
  simp only [letterB, Bool.or_eq_true, Bool.and_eq_true, decide_eq_true_eq] at h
  rcases h with ⟨_, h⟩ | ⟨_, h⟩
  · exact UInt8.lt_of_le_of_lt h (by decide)
  · exact UInt8.lt_of_le_of_lt h (by decide)
theorem id_lt {c : UInt8} (h : idB c = true) : c < 128 ∧ c ≠ 58 := by
  simp only [idB, digitB, Bool.or_eq_true, Bool.and_eq_true, decide_eq_true_eq, beq_iff_eq] at h
  rcases h with (h | ⟨_, h⟩) | h
  · refine ⟨letter_lt h, fun e => ?_⟩
    subst e
    simp [letterB] at h
  · exact ⟨UInt8.lt_of_le_of_lt h (by decide), fun e => by subst e; simp at h⟩
  · subst h
    exact ⟨by decide, by decide⟩
theorem idx_mem {c : UInt8} : ∀ {l : List UInt8} {i : Nat}, (idxGo c l i).isSome = true → c ∈ l := by
  intro l
  induction l with
  | nil => intro i h; simp [idxGo] at h
  | cons x l ih =>
    intro i h
    simp only [idxGo] at h
    cases hb : x == c
    · rw [hb] at h
      simp [ih h]
    · simp [beq_iff_eq.1 hb]
theorem sign_mem {c : UInt8} (h : signB c = true) : c ∈ signL := idx_mem h
theorem sign_lt {c : UInt8} (h : signB c = true) : c < 128 ∧ letterB c = false ∧ idB c = false := by
  have := sign_mem h
  simp only [signL, List.mem_cons, List.mem_nil_iff, or_false] at this
  rcases this with rfl | rfl | rfl | rfl | rfl | rfl | rfl | rfl | rfl | rfl | rfl | rfl | rfl | rfl <;> exact ⟨by decide, by decide, by decide⟩
theorem name_lt {t : List UInt8} (h : IsName t) : ∀ c ∈ t, c < 128 ∧ c ≠ 58 := by
  obtain ⟨c, r, rfl, h1, h2⟩ := h
  intro x hx
  rcases List.mem_cons.1 hx with rfl | hx
  · exact id_lt (letter_id h1)
  · exact id_lt (h2 x hx)
theorem sel_name {t : List UInt8} (h : IsName t) : SelOK t 0 := by
  refine ⟨?_, fun c hc => (name_lt h c hc).1⟩
  unfold argsS
  rw [plain_name h]
  rfl
theorem sel_sign {t : List UInt8} (h : IsSign t) : SelOK t 1 := by
  obtain ⟨c, r, rfl, h1⟩ := h
  refine ⟨?_, fun x hx => (sign_lt (h1 x hx)).1⟩
  unfold argsS
  have hc := sign_lt (h1 c (by simp))
  rw [plain_not (c := c) (by simp) hc.2.2]
  have : plainB ((c :: r).take 1) = false := plain_not (c := c) (by simp) hc.2.2
  rw [this]
  rfl
theorem cnt_app (a b : List UInt8) : cnt58 (a ++ b) = cnt58 a + cnt58 b := by
  induction a with
  | nil => simp [cnt58]
  | cons c a ih => simp only [List.cons_append, cnt58, ih]; omega
theorem cnt_name {t : List UInt8} (h : ∀ c ∈ t, c ≠ 58) : cnt58 t = 0 := by
  induction t with
  | nil => rfl
  | cons c t ih =>
    have : (c == 58) = false := beq_eq_false_iff_ne.2 (h c (by simp))
    simp only [cnt58, this, cond_false]
    rw [ih fun x hx => h x (by simp [hx])]
inductive KeysT : Nat → List UInt8 → Prop
  | nil : KeysT 0 []
  | snoc {n : Nat} {t m : List UInt8} (h : KeysT n t) (hm : IsName m) : KeysT (n + 1) (t ++ (m ++ [58]))
theorem keys_head {n : Nat} {t : List UInt8} (h : KeysT n t) : t = [] ∨ ∃ c r, t = c :: r ∧ letterB c = true := by
  induction h with
  | nil => exact .inl rfl
  | snoc h hm ih =>
    right
    rcases ih with rfl | ⟨c, r, rfl, hc⟩
    · obtain ⟨c, r, rfl, h1, _⟩ := hm
      exact ⟨c, _, rfl, h1⟩
    · exact ⟨c, _, rfl, hc⟩
theorem keys_cnt {n : Nat} {t : List UInt8} (h : KeysT n t) : cnt58 t = n ∧ (∀ c ∈ t, c < 128) ∧ (0 < n → (58 : UInt8) ∈ t) := by
  induction h with
  | nil => exact ⟨rfl, by simp, by omega⟩
  | @snoc n t m h hm ih =>
    refine ⟨?_, fun c hc => ?_, fun _ => by simp⟩
    · rw [cnt_app, cnt_app, ih.1, cnt_name fun c hc => (name_lt hm c hc).2]
      simp [cnt58]
    · simp only [List.mem_append, List.mem_singleton] at hc
      rcases hc with hc | hc | rfl
      · exact ih.2.1 c hc
      · exact (name_lt hm c hc).1
      · decide
theorem sel_keys {n : Nat} {t : List UInt8} (h : KeysT n t) : SelOK t n := by
  obtain ⟨h1, h2, h3⟩ := keys_cnt h
  refine ⟨?_, h2⟩
  rcases keys_head h with rfl | ⟨c, r, rfl, hc⟩
  · have : cnt58 [] = 0 := rfl
    rw [this] at h1
    subst h1
    rfl
  · unfold argsS
    cases n with
    | zero => exact (by
        cases h)
    | succ n =>
      rw [plain_not (h3 (by omega)) (by decide)]
      have : plainB ((c :: r).take 1) = true := plain_name ⟨c, [], rfl, hc, by simp⟩
      rw [this]
      exact h1
end Go.Vx
namespace Go.Vx
open Go Go.Proofs
variable {R : Ending → World → Prop} {g : G} {w : World} {H hp : Hp}

theorem c_within {p : Nat} {v : Value} {l : List Tok} {d k : Nat} {cap : Array Value} (hd40 : d ≤ 40) (hl : WFL l) (hT : TS g v l) (hS : Sat g w ((p, prs v d) :: H))
    (hbad : Nat.beq d 40 = true → ∀ w', Sat g w' ((p, prs v d) :: H) → R (.panicked (stopE (hd l).pos 3)) w')
    (hgo : Nat.beq d 40 = false → ∀ v' w', TS g v' (tk l) → Sat g w' ((p, prs v' (d + 1)) :: H) → Tr P k cap.toList w' fun e w2 => match e with
      | .returned _ => ∃ g2 v2 H2, Sat g2 w2 ((p, prs v2 (d + 1)) :: H2) ∧ ∀ w3, Sat g2 w3 ((p, prs v2 d) :: H2) → R (.returned (.tuple #[])) w3
      | .panicked ch => R (.panicked ch) w2
      | .outgrown => False) : Tr P F.tree_parser_within [ptr p 0, .func (.func k) #[] cap] w R := by
  apply t_tree_parser_within
  unfold d_tree_parser_within
  refine jn0 (fun w => Nat.beq d 40 = false ∧ Sat g w ((p, prs v d) :: H)) ?_ ?_
  · rintro w1 ⟨hne, h1⟩
    simp only [↓E1, ↓E2, ↓E3, ↓h1.ld0, Nat.reduceAdd, Nat.reduceLT]
    rw [wrap64_succ (by omega)]
    refine h1.st rfl (by simp) rfl fun w2 h2 => ?_
    have h2 : Sat g w2 ((p, prs v (d + 1)) :: H) := h2
    refine c_take hl hT h2 fun v' w3 hT' h3 => ?_
    simp only [↓E2, ↓E3]
    refine (hgo hne v' w3 hT' h3).mono ?_
    intro e w4 he
    cases e with
    | returned x =>
      obtain ⟨g2, v2, H2, h4, hk⟩ := he
      simp only [↓E1, ↓E3, ↓h4.ld0, Nat.reduceAdd, Nat.reduceLT]
      have e1 : IntKind.i64.wrap (((d + 1 : Nat) : Int) - 1) = ((d : Nat) : Int) := by rw [wrap64_of (by omega) (by omega)]; omega
      rw [e1]
      refine h4.st rfl (by simp) rfl fun w5 h5 => ?_
      exact hk w5 h5
    | panicked ch => exact he
    | outgrown => exact he.elim
  · intro k1 hk1
    simp only [↓E1, ↓E2, ↓E3, ↓hS.ld0, Nat.reduceAdd, Nat.reduceLT]
    rw [cnd_dec]
    constructor
    · intro h
      have hb : Nat.beq d 40 = true := by
        have : d = 40 := by omega
        rw [this]; rfl
      exact c_bad hl hT hS (hbad hb _ hS)
    · intro h
      have hb : Nat.beq d 40 = false := by
        cases hb : Nat.beq d 40 with
        | false => rfl
        | true => have := Nat.eq_of_beq_eq_true hb; omega
      exact hk1 _ ⟨hb, hS⟩

/-- What follows when a part has been read. -/
def OkN (g : G) (R : Ending → World → Prop) (p d : Nat) (H : Hp) (n : Node) (l' : List Tok) : Prop :=
  ∀ g' c v' w', g.le g' → NodeR g' c n → TS g' v' l' → WFL l' → Sat g' w' ((p, prs v' d) :: H) → R (.returned (.agg c.toArray)) w'
def OkB (g : G) (R : Ending → World → Prop) (p d : Nat) (H : Hp) (n : Node) (b : Bool) (l' : List Tok) : Prop :=
  ∀ g' c v' w', g.le g' → NodeR g' c n → TS g' v' l' → WFL l' → Sat g' w' ((p, prs v' d) :: H) → R (.returned (.tuple #[.agg c.toArray, .bool b])) w'
def Bad (g : G) (R : Ending → World → Prop) (p : Nat) (H : Hp) (q e : Nat) : Prop :=
  ∀ g' v' d' w', g.le g' → Sat g' w' ((p, prs v' d') :: H) → R (.panicked (stopE q e)) w'

def CN (fn : Nat) (spec : Nat → List Tok → Res Node) : Prop :=
  ∀ {p d : Nat} {l : List Tok} {v : Value} {g : G} {w : World} {H : Hp} {R : Ending → World → Prop}, d ≤ 40 → WFL l → TS g v l → Sat g w ((p, prs v d) :: H) → spec d l ≠ .out →
    (∀ n l', spec d l = .ok n l' → OkN g R p d H n l') → (∀ q e, spec d l = .bad q e → Bad g R p H q e) → Tr P fn [ptr p 0] w R
def CB (fn : Nat) (spec : Nat → List Tok → Res (Node × Bool)) : Prop :=
  ∀ {p d : Nat} {l : List Tok} {v : Value} {g : G} {w : World} {H : Hp} {R : Ending → World → Prop}, d ≤ 40 → WFL l → TS g v l → Sat g w ((p, prs v d) :: H) → spec d l ≠ .out →
    (∀ n b l', spec d l = .ok (n, b) l' → OkB g R p d H n b l') → (∀ q e, spec d l = .bad q e → Bad g R p H q e) → Tr P fn [ptr p 0] w R

/-- A part's box. -/
abbrev box (c : List Value) : Obj := .cells c.toArray Ty.tree_Node
def zN : List Value := [i64 0, str [], i64 0, i64 0, .slice none 0 0, .slice none 0 0]

theorem nodeR_leaf (g : G) (k : Nat) (t : List UInt8) (q : Nat) : NodeR g [i64 (k : Int), str t, i64 (q : Int), i64 ((0 : Nat) : Int), .slice none 0 0, .slice none 0 0] (.mk k t q 0 [] []) :=
  .mk (kcs := []) (Sl.nil g 1) (Sl.nil g 6) rfl (fun i c k h => by simp at h)

/-- Out of a box into the result's, and back. -/
theorem ret_box {b2 b4 : Nat} {c : List Value} {c2 : List Value} (h : Sat g w ((b4, box c) :: (b2, box c2) :: H)) (hc : c.length = 6) (hc2 : c2.length = 6) (h1 : allOne c = true) {K : Value → World → Prop}
    (hk : ∀ w', Sat g w' H → K (.agg c.toArray) w') : ldn 6 (ptr b4 0) (fun t w => st 6 (ptr b2 0) t (fun w => ldn 6 (ptr b2 0) K w) w) w := by
  refine h.ldn0 (c := c) hc.symm ?_
  refine h.swap2.st (c := c2) (v := .agg c.toArray) (by simp [Value.cells, hc]) (by omega) (by simpa [Value.cells] using h1) fun w6 h6 => ?_
  have e : wr c2.toArray 0 (Value.agg c.toArray).cells.toList = c.toArray := by
    have := wr0 c c2 (by omega)
    simp only [Value.cells]
    rw [this, List.drop_eq_nil_of_le (by omega)]
    simp
  rw [e] at h6
  refine h6.ldn0 (c := c) hc.symm ?_
  exact hk w6 h6.tail.tail

/-- A part is put into a box. -/
theorem st_box {b : Nat} {c c2 : List Value} (h : Sat g w ((b, box c2) :: H)) (hc : c.length = 6) (hc2 : c2.length = 6) (h1 : allOne c = true) {K : World → Prop} (hk : ∀ w', Sat g w' ((b, box c) :: H) → K w') : st 6 (ptr b 0) (.agg c.toArray) K w := by
  refine h.st (c := c2) (v := .agg c.toArray) (by simp [Value.cells, hc]) (by omega) (by simpa [Value.cells] using h1) fun w6 h6 => ?_
  have e : wr c2.toArray 0 (Value.agg c.toArray).cells.toList = c.toArray := by
    have := wr0 c c2 (by omega)
    simp only [Value.cells]
    rw [this, List.drop_eq_nil_of_le (by omega)]
    simp
  rw [e] at h6
  exact hk w6 h6

/-- What is there of the words' functions at one fuel. -/
structure AllOK (f : Nat) : Prop where
  expr : CN F.tree_parser_expression (expr f)
  casc : CN F.tree_parser_cascade (casc f)
  msg : CN F.tree_parser_message (msg f)
  keyed : CB F.tree_parser_keyed (keyed f)
  binary : CB F.tree_parser_binary (binary f)
  unary : CB F.tree_parser_unary (unary f)
  prim : CB F.tree_parser_primary (prim f)
  lst : CN F.tree_parser_list (lst f)
  elem : CN F.tree_parser_element (elem f)
  blk : CN F.tree_parser_block (blk f)
  stmt : CB F.tree_parser_statement (stmt f)

theorem andThen_eq_ok {α β : Type} {a : α} {l : List Tok} {k : α → List Tok → Res β} : (Res.ok a l).andThen k = k a l := rfl
theorem andThen_eq_bad {α β : Type} {q e : Nat} {k : α → List Tok → Res β} : (Res.bad q e : Res α).andThen k = .bad q e := rfl
theorem andThen_not_out {α β : Type} {r : Res α} {k : α → List Tok → Res β} (h : r.andThen k ≠ .out) : r ≠ .out := fun e => h (by rw [e]; rfl)

/-- A message goes to a receiver. -/
theorem c_sent {f : Nat} (hm : CN F.tree_parser_message (msg f)) {p d : Nat} {l : List Tok} {v : Value} {c : List Value} {n : Node} (hd40 : d ≤ 40) (hl : WFL l) (hT : TS g v l) (hn : NodeR g c n) (hS : Sat g w ((p, prs v d) :: H)) (hno : msg f d l ≠ .out)
    (hok : ∀ m l', msg f d l = .ok m l' → OkN g R p d H (sendN n m) l') (hbad : ∀ q e, msg f d l = .bad q e → Bad g R p H q e) : Tr P F.tree_parser_sent [ptr p 0, .agg c.toArray] w R := by
  apply t_tree_parser_sent
  unfold d_tree_parser_sent
  have hz : (Value.agg c.toArray).cells.toList = c := by simp [Value.cells]
  rw [hz]
  refine hS.al fun b3 w1 h1 => h1.al fun b4 w2 h2 => ?_
  simp only [↓E2]
  have h3 : Sat g w2 ((p, prs v d) :: (b4, box zN) :: (b3, box c) :: H) := h2.perm (List.perm_middle (l₁ := [(b4, _), (b3, _)])).symm.symm
  refine hm hd40 hl hT h3 hno (fun m l' hm' => ?_) (fun q e hq => ?_)
  · intro g1 cm v1 w3 hg1 hcm hT1 hl1 h4
    simp only [↓E2, ↓E3]
    refine h4.al fun b5 w4 h5 => ?_
    refine st_box h5 hcm.len rfl hcm.one fun w5 h6 => ?_
    cases hcm with
    | @mk kd q nn t ns ks nv kv kcs s1 s2 s3 s4 =>
    have hr := h6.drew
    have h8 : Sat g1 w5.drew ((b3, box c) :: (b5, box [i64 (kd : Int), str t, i64 (q : Int), i64 (nn : Int), nv, kv]) :: (p, prs v1 d) :: (b4, box zN) :: H) :=
      hr.perm (List.perm_middle (l₁ := [(b5, _), (p, _), (b4, _)]))
    simp only [↓E1, ↓E2, ↓E3, ↓hr.ld0, Nat.reduceAdd, Nat.reduceLT]
    refine h8.ldn0 (c := c) hn.len.symm ?_
    simp only [↓hr.ld0, ↓E1, ↓E3, Nat.reduceAdd, Nat.reduceLT]
    have hlen6 := hn.len
    refine hr.bs (cs := c) ?_ fun b6 w6 h9 => ?_
    · simp only [fillV, Value.cells]
      rw [wr0 c _ (by simp [hlen6])]
      simp [hlen6]
    have hmem : (b5, box [i64 (kd : Int), str t, i64 (q : Int), i64 (nn : Int), nv, kv]) ∈ ((b6, Obj.cells c.toArray 50) :: (b5, box [i64 (kd : Int), str t, i64 (q : Int), i64 (nn : Int), nv, kv]) :: (p, prs v1 d) :: (b4, box zN) :: (b3, box c) :: H) := by simp
    refine h9.rk (t := 50) (fr := (0, 0)) (c := [i64 (kd : Int), str t, i64 (q : Int), i64 (nn : Int), nv, kv]) (by simp) rfl ?_
    refine h9.rk (t := 50) (fr := (0, 0)) (c := [i64 (kd : Int), str t, i64 (q : Int), i64 (nn : Int), nv, kv]) (by simp) rfl ?_
    refine h9.rk (t := 50) (fr := (0, 0)) (c := [i64 (kd : Int), str t, i64 (q : Int), i64 (nn : Int), nv, kv]) (by simp) rfl ?_
    have hkr : KR g1 kcs ks := ⟨s3, s4⟩
    have hbnd : ks.length ≤ l.length + 1 := msg_kids hm'
    have hl97 := hl.len
    have h10 : Sat g1 w6 ([(b6, .cells (c ++ []).toArray 50)] ++ ((b5, box [i64 (kd : Int), str t, i64 (q : Int), i64 (nn : Int), nv, kv]) :: (p, prs v1 d) :: (b4, box zN) :: (b3, box c) :: H)) := by simpa using h9
    refine Sat.ap (sz := 6) h10 (.some (by simpa using hlen6) (by simp) (by omega) (by omega)) rfl (h9.srcI s2) hkr.flat hkr.one (by omega) (by omega) fun v' hp' w7 hg7 h11 => ?_
    refine h11.rk (b := b5) (t := 50) (fr := (0, 0)) (c := [i64 (kd : Int), str t, i64 (q : Int), i64 (nn : Int), nv, kv]) (by simp) rfl ?_
    refine h11.rk (b := b5) (t := 50) (fr := (0, 0)) (c := [i64 (kd : Int), str t, i64 (q : Int), i64 (nn : Int), nv, kv]) (by simp) rfl ?_
    obtain ⟨g2, hg2, h12, hsl⟩ := hg7.freeze h11
    have hone := hsl.one
    refine bdI (cs := [i64 7, str t, i64 (q : Int), i64 0, .slice none 0 0, v']) (by obtain ⟨a', c', rfl, _⟩ := hsl; rfl) ?_
    have h13 : Sat g2 w7 ((b4, box zN) :: (b5, box [i64 (kd : Int), str t, i64 (q : Int), i64 (nn : Int), nv, kv]) :: (p, prs v1 d) :: (b3, box c) :: H) := h12.perm (List.perm_middle (l₁ := [(b5, _), (p, _)]))
    have hN : NodeR g2 [i64 ((7 : Nat) : Int), str t, i64 (q : Int), i64 ((0 : Nat) : Int), .slice none 0 0, v'] (sendN n (.mk kd t q nn ns ks)) := by
      have hkr2 := (hkr.mono hg2).cons (hn.mono (hg1.trans hg2))
      refine .mk (kcs := c :: kcs) (Sl.nil g2 1) ?_ hkr2.1 hkr2.2
      have : (1 + ks.length) = (n :: ks).length := by simp; omega
      rw [this] at hsl
      exact hsl
    refine st_box h13 rfl rfl hN.one fun w8 h14 => ?_
    refine h14.ldn0 (c := [i64 ((7 : Nat) : Int), str t, i64 (q : Int), i64 ((0 : Nat) : Int), .slice none 0 0, v']) rfl ?_
    have h15 : Sat g2 w8 ((p, prs v1 d) :: H) := by
      have := (h14.tail.tail).perm (List.Perm.refl _)
      exact (this.swap2).tail
    exact hok _ _ hm' g2 _ v1 w8 (hg1.trans hg2) hN (hT1.mono hg2) hl1 h15
  · intro g1 v1 d1 w3 hg1 h4
    exact hbad q e hq g1 v1 d1 w3 hg1 (h4.sub (fun x hx => by
      simp only [List.mem_cons] at hx ⊢
      rcases hx with rfl | hx
      · exact .inl rfl
      · exact .inr (.inr (.inr hx))) (by
      have := h4.nodup
      simp only [List.map_cons, List.nodup_cons, List.mem_cons, not_or] at this ⊢
      exact ⟨this.1.2.2, this.2.2.2⟩))

theorem Bad.drop {p : Nat} {q e : Nat} {x : Nat × Obj} (h : Bad g R p H q e) : Bad g R p (x :: H) q e := fun g1 v1 d1 w1 hg h1 => h g1 v1 d1 w1 hg (Sat.tail h1.swap2)
theorem Bad.mono {p : Nat} {q e : Nat} {g' : G} (hg : g.le g') (h : Bad g R p H q e) : Bad g' R p H q e := fun g1 v1 d1 w1 hg1 h1 => h g1 v1 d1 w1 (hg.trans hg1) h1

/-- Messages of a kind to what is read. -/
theorem c_chain {f : Nat} (hm : ∀ f' ≤ f, CN F.tree_parser_message (msg f')) {rd : Nat → List Tok → Res (Node × Bool)} {fnR : Nat} (hrd : CB fnR rd) {p d k : Nat} {once : Bool} {l : List Tok} {v : Value} (hd40 : d ≤ 40) (hl : WFL l) (hT : TS g v l) (hS : Sat g w ((p, prs v d) :: H))
    (hno : ((rd d l).andThen fun np l1 => chainL f d k once np.1 np.2 l1) ≠ .out)
    (hok : ∀ n b l', ((rd d l).andThen fun np l1 => chainL f d k once np.1 np.2 l1) = .ok (n, b) l' → OkB g R p d H n b l')
    (hbad : ∀ q e, ((rd d l).andThen fun np l1 => chainL f d k once np.1 np.2 l1) = .bad q e → Bad g R p H q e) :
    Tr P F.tree_parser_chain [ptr p 0, i64 (k : Int), .bool once, .func (.func fnR) #[ptr p 0] #[]] w R := by
  apply t_tree_parser_chain
  unfold d_tree_parser_chain
  refine hS.al fun b8 w1 h1 => ?_
  have h1 : Sat g w1 ((p, prs v d) :: (b8, box zN) :: H) := h1.swap2
  simp only [↓E2, List.append_nil, List.nil_append]
  refine hrd hd40 hl hT h1 (andThen_not_out hno) (fun n b l1 hr => ?_) (fun q e hq => ?_)
  · rw [hr] at hno hok hbad
    simp only [andThen_eq_ok] at hno hok hbad
    intro g1 c v1 w2 hg1 hc hT1 hl1 h2
    simp only [↓E1, ↓E2, ↓E3]
    refine h2.al fun b10 w3 h3 => ?_
    refine st_box h3 hc.len rfl hc.one fun w4 h4 => ?_
    have h4 : Sat g1 w4 ((p, prs v1 d) :: (b10, box c) :: (b8, box zN) :: H) := h4.swap2
    refine lp1 (fun m x w => ∃ g1 c n b l1 v1 f1, g.le g1 ∧ x = .bool b ∧ NodeR g1 c n ∧ TS g1 v1 l1 ∧ WFL l1 ∧ m = l1.length ∧ f1 ≤ f ∧ chainL f1 d k once n b l1 ≠ .out ∧ (∀ n' b' l', chainL f1 d k once n b l1 = .ok (n', b') l' → OkB g R p d H n' b' l') ∧ (∀ q e, chainL f1 d k once n b l1 = .bad q e → Bad g R p H q e) ∧
      Sat g1 w ((p, prs v1 d) :: (b10, box c) :: (b8, box zN) :: H)) l1.length ⟨g1, c, n, b, l1, v1, f, hg1, rfl, hc, hT1, hl1, rfl, Nat.le_refl _, hno, hok, hbad, h4⟩ ?_
    clear h4 h3 h2 hc hT1 hl1 hno hok hbad hr hg1
    rintro m x w5 ⟨g1, c, n, b, l1, v1, f1, hg1, rfl, hc, hT1, hl1, rfl, hf1, hno, hok, hbad, h5⟩
    obtain ⟨f2, rfl⟩ : ∃ f2, f1 = f2 + 1 := by
      cases f1 with
      | zero => simp [chainL] at hno
      | succ f2 => exact ⟨f2, rfl⟩
    simp only [chainL] at hno hok hbad
    refine c_kind hl1 hT1 h5 ?_
    simp only [↓E1, ↓E2, ↓E3]
    rw [cnd_dec]
    constructor
    · intro hk
      have hb : Nat.beq (kd l1) k = true := by
        have : kd l1 = k := by omega
        rw [this]; exact Nat.beq_refl _
      rw [hb] at hno hok hbad
      simp only [cond_true] at hno hok hbad
      refine h5.swap2.ldn0 (c := c) hc.len.symm ?_
      refine c_sent (hm f2 (by omega)) hd40 hl1 hT1 hc h5 (andThen_not_out hno) (fun m1 l2 hm1 => ?_) (fun q e hq => ?_)
      · rw [hm1] at hno hok hbad
        simp only [andThen_eq_ok] at hno hok hbad
        intro g2 c2 v2 w6 hg2 hc2 hT2 hl2 h6
        simp only [↓E3]
        refine st_box h6.swap2 hc2.len hc.len hc2.one fun w7 h7 => ?_
        have h7' : Sat g2 w7 ((b10, box c2) :: (b8, box zN) :: (p, prs v2 d) :: H) := h7.perm (.cons _ (List.Perm.swap _ _ _))
        rw [cnd_eq]
        constructor
        · intro ho
          subst ho
          simp only [cond_true] at hok
          refine ret_box h7' hc2.len rfl hc2.one fun w8 h8 => ?_
          exact hok _ _ _ rfl g2 c2 v2 w8 (hg1.trans hg2) hc2 hT2 hl2 h8
        · intro ho
          subst ho
          simp only [cond_false] at hno hok hbad
          have := (prog f2).msg hm1
          exact ⟨l2.length, this, _, rfl, g2, c2, _, true, l2, v2, f2, hg1.trans hg2, rfl, hc2, hT2, hl2, rfl, by omega, hno, hok, hbad, h7.swap2⟩
      · rw [hq] at hbad
        exact ((hbad _ _ rfl).drop.drop).mono hg1
    · intro hk
      have hb : Nat.beq (kd l1) k = false := by
        cases hb : Nat.beq (kd l1) k with
        | false => rfl
        | true => exact absurd (by have := Nat.eq_of_beq_eq_true hb; omega) hk
      rw [hb] at hok
      simp only [cond_false] at hok
      have h7' : Sat g1 w5 ((b10, box c) :: (b8, box zN) :: (p, prs v1 d) :: H) := h5.perm (List.perm_middle (l₁ := [(b10, _), (b8, _)])).symm
      refine ret_box h7' hc.len rfl hc.one fun w8 h8 => ?_
      exact hok _ _ _ rfl g1 c v1 w8 hg1 hc hT1 hl1 h8
  · rw [hq] at hbad
    exact (hbad _ _ rfl).drop

theorem c_lev {f : Nat} (hm : ∀ f' ≤ f, CN F.tree_parser_message (msg f')) {rd : Nat → List Tok → Res (Node × Bool)} {fnR : Nat} (hrd : CB fnR rd) {k : Nat} {once : Bool} {fn : Nat}
    (ht : ∀ {R : Ending → World → Prop} {p : Nat} {w : World}, (al zN 50 (fun t2 w => cl P F.tree_parser_chain [ptr p 0, i64 (k : Int), .bool once, .func (.func fnR) #[ptr p 0] #[]] (fun t7 w => ex t7 0 (fun t8 w => ex t7 1 (fun t9 w => st 6 t2 t8 (fun w => ldn 6 t2 (fun r0 w =>
      R (.returned (.tuple #[r0, t9])) w) w) w) w) w) (fun ch w => R (.panicked ch) w) w) w) → Tr P fn [ptr p 0] w R) : CB fn (fun d l => (rd d l).andThen fun np l1 => chainL f d k once np.1 np.2 l1) := by
  intro p d l v g w H R hd40 hl hT hS hno hok hbad
  refine ht (hS.al fun b2 w1 h1 => ?_)
  have h1 : Sat g w1 ((p, prs v d) :: (b2, box zN) :: H) := h1.swap2
  simp only [↓E2]
  refine c_chain hm hrd hd40 hl hT h1 hno (fun n b l' hr => ?_) (fun q e hq => (hbad q e hq).drop)
  intro g1 c v1 w2 hg1 hc hT1 hl1 h2
  simp only [↓E1, ↓E2, ↓E3]
  refine st_box h2.swap2 hc.len rfl hc.one fun w3 h3 => ?_
  refine h3.ldn0 (c := c) hc.len.symm ?_
  exact hok n b l' hr g1 c v1 w3 hg1 hc hT1 hl1 h3.tail

theorem unary_eq (f : Nat) : unary (f + 1) = fun d l => (prim f d l).andThen fun np l1 => chainL f d 1 false np.1 np.2 l1 := by funext d l; simp only [unary]
theorem binary_eq (f : Nat) : binary (f + 1) = fun d l => (unary f d l).andThen fun np l1 => chainL f d 3 false np.1 np.2 l1 := by funext d l; simp only [binary]
theorem keyed_eq (f : Nat) : keyed (f + 1) = fun d l => (binary f d l).andThen fun np l1 => chainL f d 2 true np.1 np.2 l1 := by funext d l; simp only [keyed]
theorem k_unary {f : Nat} (ih : ∀ f' ≤ f, AllOK f') : CB F.tree_parser_unary (unary (f + 1)) := by
  rw [unary_eq]
  exact c_lev (fun f' h => (ih f' h).msg) (ih f (Nat.le_refl _)).prim (fun h => t_tree_parser_unary _ _ _ h)
theorem k_binary {f : Nat} (ih : ∀ f' ≤ f, AllOK f') : CB F.tree_parser_binary (binary (f + 1)) := by
  rw [binary_eq]
  exact c_lev (fun f' h => (ih f' h).msg) (ih f (Nat.le_refl _)).unary (fun h => t_tree_parser_binary _ _ _ h)
theorem k_keyed {f : Nat} (ih : ∀ f' ≤ f, AllOK f') : CB F.tree_parser_keyed (keyed (f + 1)) := by
  rw [keyed_eq]
  exact c_lev (fun f' h => (ih f' h).msg) (ih f (Nat.le_refl _)).binary (fun h => t_tree_parser_keyed _ _ _ h)
end Go.Vx
