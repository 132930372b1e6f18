/- Part 3 of the walk: a calculus of conditions over the model, and contracts of the functions of the program, in their plain form. No claim stands here. -/
import Derived.Test.YtenakfgcdjninaaGreatDoorVm2
set_option linter.unusedVariables false
set_option linter.unusedSimpArgs false
set_option linter.unusedSectionVars false
set_option linter.unnecessarySimpa false
set_option maxRecDepth 100000
set_option linter.unusedVariables false
namespace Go.Vx
open Go Go.Proofs
/-- lapidary/lapidarylaw10.CodeOnce -/
def d_law10_CodeOnce (R : Ending → World → Prop) (a0 a1 : Value) (w : World) : Prop :=
  cl P F.code_Compile [a0, a1] (fun t15 w =>
  ex t15 0 (fun t16 w =>
  ex t15 1 (fun t17 w =>
  ex t15 2 (fun t18 w =>
  al [.string ⟨#[]⟩, .slice none 0 0, .slice none 0 0, .slice none 0 0, .slice none 0 0] 25 (fun t5 w =>
  st 5 t5 t16 (fun w =>
  bI .neq .i64 t18 (Value.int IntKind.i64 0) (fun t20 w =>
  cnd t20
  (cl P F.law10_known [] (fun t21 w =>
  R (.returned t21) w) (fun ch w => R (.panicked ch) w) w)
  (ldn 5 t5 (fun t22 w =>
  cl P F.law10_taken [t22] (fun t23 w =>
  al [.string ⟨#[]⟩, .slice none 0 0, .slice none 0 0, .slice none 0 0, .slice none 0 0] 32 (fun t8 w =>
  st 5 t8 t23 (fun w =>
  jn 1 (fun x4 w =>
  lp 2 [(Value.int IntKind.i64 0), (Value.int IntKind.i64 0)] (fun r2 x9 x10 w =>
  fa 1 t8 (fun t47 w =>
  ld t47 (fun t48 w =>
  lnL t48 (fun t49 w =>
  bI .lss .i64 x10 t49 (fun t50 w =>
  cnd t50
  (lp 2 [x9, (Value.int IntKind.i64 0)] (fun r3 x9 x11 w =>
  fa 1 t8 (fun t54 w =>
  ld t54 (fun t55 w =>
  ia 3 t55 x10 (fun t57 w =>
  fa 2 t57 (fun t58 w =>
  ld t58 (fun t59 w =>
  lnL t59 (fun t60 w =>
  bI .lss .i64 x11 t60 (fun t61 w =>
  cnd t61
  (fa 1 t8 (fun t64 w =>
  ld t64 (fun t65 w =>
  ia 3 t65 x10 (fun t67 w =>
  fa 2 t67 (fun t68 w =>
  ld t68 (fun t69 w =>
  ia 3 t69 x11 (fun t71 w =>
  fa 0 t71 (fun t72 w =>
  ld t72 (fun t73 w =>
  bI .eql .i64 t73 (Value.int IntKind.i64 10) (fun t74 w =>
  cnd t74
  (bI .add .i64 x9 (Value.int IntKind.i64 1) (fun t76 w =>
  bI .add .i64 x11 (Value.int IntKind.i64 1) (fun t63 w =>
  sm [(x4, x4), (t8, t8), (x10, x10)] [] [] (r3 [t76, t63] w)) w) w)
  (bI .add .i64 x11 (Value.int IntKind.i64 1) (fun t63 w =>
  sm [(x4, x4), (t8, t8), (x10, x10)] [] [] (r3 [x9, t63] w)) w)) w) w) w) w) w) w) w) w) w)
  (bI .add .i64 x10 (Value.int IntKind.i64 1) (fun t52 w =>
  sm [(x4, x4), (t8, t8)] [] [] (r2 [x9, t52] w)) w)) w) w) w) w) w) w) w) w)
  (ldn 5 t8 (fun t77 w =>
  fa 2 t8 (fun t78 w =>
  ld t78 (fun t79 w =>
  lnL t79 (fun t80 w =>
  cl P F.law10_used [t77, (Value.int IntKind.i64 0), (Value.int IntKind.i64 0), t80] (fun t81 w =>
  cnd t81
  (ldn 5 t8 (fun t83 w =>
  fa 3 t8 (fun t84 w =>
  ld t84 (fun t85 w =>
  lnL t85 (fun t86 w =>
  cl P F.law10_used [t83, (Value.int IntKind.i64 5), (Value.int IntKind.i64 5), t86] (fun t87 w =>
  cnd t87
  (ldn 5 t8 (fun t90 w =>
  fa 4 t8 (fun t91 w =>
  ld t91 (fun t92 w =>
  lnL t92 (fun t93 w =>
  cl P F.law10_used [t90, (Value.int IntKind.i64 8), (Value.int IntKind.i64 9), t93] (fun t94 w =>
  cnd t94
  (fa 1 t8 (fun t98 w =>
  ld t98 (fun t99 w =>
  lnL t99 (fun t100 w =>
  bI .sub .i64 t100 (Value.int IntKind.i64 1) (fun t101 w =>
  bI .eql .i64 x9 t101 (fun t102 w =>
  cnd t102
  (cl P F.law10_known [] (fun t105 w =>
  R (.returned t105) w) (fun ch w => R (.panicked ch) w) w)
  (R (.returned (.bool false)) w)) w) w) w) w) w)
  (R (.returned (.bool false)) w)) (fun ch w => R (.panicked ch) w) w) w) w) w) w)
  (R (.returned (.bool false)) w)) (fun ch w => R (.panicked ch) w) w) w) w) w) w)
  (R (.returned (.bool false)) w)) (fun ch w => R (.panicked ch) w) w) w) w) w) w)) w) w) w) w) w) (fun k1 =>
  fa 2 t8 (fun t24 w =>
  ld t24 (fun t25 w =>
  cl P F.law10_once [t25] (fun t26 w =>
  uN t26 (fun t27 w =>
  cnd t27
  (R (.returned (.bool false)) w)
  (fa 3 t8 (fun t29 w =>
  ld t29 (fun t30 w =>
  cl P F.law10_once [t30] (fun t31 w =>
  uN t31 (fun t32 w =>
  cnd t32
  (R (.returned (.bool false)) w)
  (fa 4 t8 (fun t35 w =>
  ld t35 (fun t36 w =>
  cl P F.law10_once [t36] (fun t37 w =>
  uN t37 (fun t38 w =>
  cnd t38
  (R (.returned (.bool false)) w)
  (fa 1 t8 (fun t41 w =>
  ld t41 (fun t42 w =>
  lnL t42 (fun t43 w =>
  bI .eql .i64 t43 (Value.int IntKind.i64 0) (fun t44 w =>
  cnd t44
  (R (.returned (.bool false)) w)
  (sm [(t8, t8)] [] [] (k1 (.bool false) w))) w) w) w) w)) w) (fun ch w => R (.panicked ch) w) w) w) w)) w) (fun ch w => R (.panicked ch) w) w) w) w)) w) (fun ch w => R (.panicked ch) w) w) w) w)) w) w) (fun ch w => R (.panicked ch) w) w) w)) w) w) w) w) w) w) (fun ch w => R (.panicked ch) w) w
theorem e_law10_CodeOnce (R : Ending → World → Prop) (a0 a1 : Value) (w : World) : vcFn P tab 4000 Tryz.f3.ntmps (Tryz.f3.body.getD .skip) Tryz.f3.results.toList [a0, a1] R w = d_law10_CodeOnce R a0 a1 w := by kernel_rfl
theorem t_law10_CodeOnce (R : Ending → World → Prop) (a0 a1 : Value) (w : World) (h : d_law10_CodeOnce R a0 a1 w) : Tr P F.law10_CodeOnce [a0, a1] w R :=
  fn_ok (fn := Tryz.f3) (c := Tryz.f3.body.getD .skip) (fuel := 4000) mixed tab_ok Tryz.func3 (by kernel_rfl) (by kernel_rfl) (Nat.le_of_ble_eq_true (by kernel_rfl)) (Eq.mpr (e_law10_CodeOnce R a0 a1 w) h)
/-- lapidary/lapidarylaw10.CodeGood -/
def d_law10_CodeGood (R : Ending → World → Prop) (a0 a1 a2 : Value) (w : World) : Prop :=
  cl P F.code_Compile [a0, a2] (fun t13 w =>
  ex t13 0 (fun t14 w =>
  ex t13 1 (fun t15 w =>
  ex t13 2 (fun t16 w =>
  al [.string ⟨#[]⟩, .slice none 0 0, .slice none 0 0, .slice none 0 0, .slice none 0 0] 25 (fun t7 w =>
  st 5 t7 t14 (fun w =>
  jn 1 (fun x9 w =>
  bI .neq .i64 x9 (Value.int IntKind.i64 0) (fun t26 w =>
  cnd t26
  (ldn 5 t7 (fun t27 w =>
  cl P F.law10_taken [t27] (fun t28 w =>
  bd [.string ⟨#[]⟩, .slice none 0 0, .slice none 0 0, .slice none 0 0, .slice none 0 0] [] (fun t29 w =>
  cl P F.ref10_Same [t28, t29] (fun t30 w =>
  cnd t30
  (cl P F.law10_known [] (fun t32 w =>
  R (.returned t32) w) (fun ch w => R (.panicked ch) w) w)
  (R (.returned (.bool false)) w)) (fun ch w => R (.panicked ch) w) w) w) (fun ch w => R (.panicked ch) w) w) w)
  (ldn 5 t7 (fun t34 w =>
  lnL a2 (fun t36 w =>
  cl P F.code_Check [t34, t36] (fun t37 w =>
  bI .eql .i64 t37 (Value.int IntKind.i64 0) (fun t38 w =>
  cnd t38
  (ldn 5 t7 (fun t40 w =>
  cl P F.law10_taken [t40] (fun t41 w =>
  lnL a2 (fun t43 w =>
  cl P F.ref10_Check [t41, t43] (fun t44 w =>
  bI .eql .i64 t44 (Value.int IntKind.i64 0) (fun t45 w =>
  cnd t45
  (fa 1 t7 (fun t48 w =>
  ld t48 (fun t49 w =>
  lnL t49 (fun t50 w =>
  bI .gtr .i64 t50 (Value.int IntKind.i64 0) (fun t51 w =>
  cnd t51
  (cl P F.law10_known [] (fun t54 w =>
  R (.returned t54) w) (fun ch w => R (.panicked ch) w) w)
  (R (.returned (.bool false)) w)) w) w) w) w)
  (R (.returned (.bool false)) w)) w) (fun ch w => R (.panicked ch) w) w) w) (fun ch w => R (.panicked ch) w) w) w)
  (R (.returned (.bool false)) w)) w) (fun ch w => R (.panicked ch) w) w) w) w)) w) (fun k1 =>
  cnd a1
  (cl P F.code_Method [a0, a2] (fun t21 w =>
  ex t21 0 (fun t22 w =>
  ex t21 1 (fun t23 w =>
  ex t21 2 (fun t24 w =>
  st 5 t7 t22 (fun w =>
  sm [(a2, a2), ((.bool false), (.bool false)), (t7, t7)] [] [] (k1 t24 w)) w) w) w) w) (fun ch w => R (.panicked ch) w) w)
  (sm [(a2, a2), ((.bool false), (.bool false)), (t7, t7)] [] [] (k1 t16 w)))) w) w) w) w) w) (fun ch w => R (.panicked ch) w) w
theorem e_law10_CodeGood (R : Ending → World → Prop) (a0 a1 a2 : Value) (w : World) : vcFn P tab 4000 Tryz.f5.ntmps (Tryz.f5.body.getD .skip) Tryz.f5.results.toList [a0, a1, a2] R w = d_law10_CodeGood R a0 a1 a2 w := by kernel_rfl
theorem t_law10_CodeGood (R : Ending → World → Prop) (a0 a1 a2 : Value) (w : World) (h : d_law10_CodeGood R a0 a1 a2 w) : Tr P F.law10_CodeGood [a0, a1, a2] w R :=
  fn_ok (fn := Tryz.f5) (c := Tryz.f5.body.getD .skip) (fuel := 4000) mixed tab_ok Tryz.func5 (by kernel_rfl) (by kernel_rfl) (Nat.le_of_ble_eq_true (by kernel_rfl)) (Eq.mpr (e_law10_CodeGood R a0 a1 a2 w) h)
/-- lapidary/code.Compile -/
def d_code_Compile (R : Ending → World → Prop) (a0 a1 : Value) (w : World) : Prop :=
  al [.string ⟨#[]⟩, .slice none 0 0, .slice none 0 0, .slice none 0 0, .slice none 0 0] 25 (fun t4 w =>
  cl P F.tree_Parse [a0] (fun t12 w =>
  ex t12 0 (fun t13 w =>
  ex t12 1 (fun t14 w =>
  ex t12 2 (fun t15 w =>
  al [.int .i64 0, .string ⟨#[]⟩, .int .i64 0, .int .i64 0, .slice none 0 0, .slice none 0 0] 50 (fun t7 w =>
  st 6 t7 t13 (fun w =>
  bI .neq .i64 t15 (Value.int IntKind.i64 0) (fun t17 w =>
  cnd t17
  (bd [.string ⟨#[]⟩, .slice none 0 0, .slice none 0 0, .slice none 0 0, .slice none 0 0] [] (fun t18 w =>
  st 5 t4 t18 (fun w =>
  ldn 5 t4 (fun r0 w =>
  R (.returned (.tuple #[r0, t14, t15])) w) w) w) w)
  (ldn 6 t7 (fun t21 w =>
  cl P F.code_Make [t21, a1] (fun t23 w =>
  ex t23 0 (fun t24 w =>
  ex t23 1 (fun t25 w =>
  ex t23 2 (fun t26 w =>
  st 5 t4 t24 (fun w =>
  ldn 5 t4 (fun r0 w =>
  R (.returned (.tuple #[r0, t25, t26])) w) w) w) w) w) w) (fun ch w => R (.panicked ch) w) w) w)) w) w) w) w) w) w) (fun ch w => R (.panicked ch) w) w) w
theorem e_code_Compile (R : Ending → World → Prop) (a0 a1 : Value) (w : World) : vcFn P tab 4000 Tryz.f6.ntmps (Tryz.f6.body.getD .skip) Tryz.f6.results.toList [a0, a1] R w = d_code_Compile R a0 a1 w := by kernel_rfl
theorem t_code_Compile (R : Ending → World → Prop) (a0 a1 : Value) (w : World) (h : d_code_Compile R a0 a1 w) : Tr P F.code_Compile [a0, a1] w R :=
  fn_ok (fn := Tryz.f6) (c := Tryz.f6.body.getD .skip) (fuel := 4000) mixed tab_ok Tryz.func6 (by kernel_rfl) (by kernel_rfl) (Nat.le_of_ble_eq_true (by kernel_rfl)) (Eq.mpr (e_code_Compile R a0 a1 w) h)
/-- lapidary/lapidarylaw10.known -/
def d_law10_known (R : Ending → World → Prop) (w : World) : Prop :=
  cl P F.code_Compile [(Value.string { data := #[51, 32, 102, 111, 111, 59, 32, 43, 32, 52] }), (Value.slice none 0 0)] (fun t9 w =>
  ex t9 0 (fun t10 w =>
  ex t9 1 (fun t11 w =>
  ex t9 2 (fun t12 w =>
  al [.string ⟨#[]⟩, .slice none 0 0, .slice none 0 0, .slice none 0 0, .slice none 0 0] 25 (fun t1 w =>
  st 5 t1 t10 (fun w =>
  cl P F.code_Compile [(Value.string { data := #[97, 32, 58, 61, 32, 51] }), (Value.slice none 0 0)] (fun t14 w =>
  ex t14 0 (fun t15 w =>
  ex t14 1 (fun t16 w =>
  ex t14 2 (fun t17 w =>
  al [.string ⟨#[]⟩, .slice none 0 0, .slice none 0 0, .slice none 0 0, .slice none 0 0] 25 (fun t4 w =>
  st 5 t4 t15 (fun w =>
  bs 9 [.string ⟨#[]⟩] 2 [(0, 1, (Value.string { data := #[51] })), (1, 1, (Value.string { data := #[52] }))] (fun t18 w =>
  bs 9 [.string ⟨#[]⟩] 2 [(0, 1, (Value.string { data := #[102, 111, 111] })), (1, 1, (Value.string { data := #[43] }))] (fun t19 w =>
  bd [.string ⟨#[]⟩, .slice none 0 0, .slice none 0 0, .slice none 0 0, .slice none 0 0] [(2, 1, t18), (4, 1, t19)] (fun t20 w =>
  al [.string ⟨#[]⟩, .slice none 0 0, .slice none 0 0, .slice none 0 0, .slice none 0 0] 32 (fun t7 w =>
  st 5 t7 t20 (fun w =>
  bd [.int .i64 0, .int .i64 0, .int .i64 0] [(0, 1, (Value.int IntKind.i64 0))] (fun t21 w =>
  bd [.int .i64 0, .int .i64 0, .int .i64 0] [(0, 1, (Value.int IntKind.i64 11))] (fun t22 w =>
  bd [.int .i64 0, .int .i64 0, .int .i64 0] [(0, 1, (Value.int IntKind.i64 8))] (fun t23 w =>
  bd [.int .i64 0, .int .i64 0, .int .i64 0] [(0, 1, (Value.int IntKind.i64 12))] (fun t24 w =>
  bd [.int .i64 0, .int .i64 0, .int .i64 0] [(0, 1, (Value.int IntKind.i64 0)), (1, 1, (Value.int IntKind.i64 1))] (fun t25 w =>
  bd [.int .i64 0, .int .i64 0, .int .i64 0] [(0, 1, (Value.int IntKind.i64 8)), (1, 1, (Value.int IntKind.i64 1)), (2, 1, (Value.int IntKind.i64 1))] (fun t26 w =>
  bd [.int .i64 0, .int .i64 0, .int .i64 0] [(0, 1, (Value.int IntKind.i64 13))] (fun t27 w =>
  bs 39 [.int .i64 0, .int .i64 0, .int .i64 0] 7 [(0, 3, t21), (3, 3, t22), (6, 3, t23), (9, 3, t24), (12, 3, t25), (15, 3, t26), (18, 3, t27)] (fun t28 w =>
  bd [.int .i64 0, .int .i64 0, .slice none 0 0] [(2, 1, t28)] (fun t29 w =>
  bs 37 [.int .i64 0, .int .i64 0, .slice none 0 0] 1 [(0, 3, t29)] (fun t30 w =>
  fa 1 t7 (fun t31 w =>
  st 1 t31 t30 (fun w =>
  drw w (fun w =>
  bI .eql .i64 t12 (Value.int IntKind.i64 0) (fun t33 w =>
  cnd t33
  (ldn 5 t1 (fun t35 w =>
  ldn 5 t7 (fun t37 w =>
  cl P F.law10_taken [t35] (fun t36 w =>
  rk true t7 t37
  (cl P F.ref10_Same [t36, t37] (fun t38 w =>
  cnd t38
  (bI .eql .i64 t16 (Value.int IntKind.i64 0) (fun t42 w =>
  cnd t42
  (bI .eql .i64 t17 (Value.int IntKind.i64 21) (fun t46 w =>
  R (.returned t46) w) w)
  (R (.returned (.bool false)) w)) w)
  (R (.returned (.bool false)) w)) (fun ch w => R (.panicked ch) w) w) w) (fun ch w => R (.panicked ch) w) w) w) w)
  (R (.returned (.bool false)) w)) w)) w) w) w) w) w) w) w) w) w) w) w) w) w) w) w) w) w) w) w) w) w) w) (fun ch w => R (.panicked ch) w) w) w) w) w) w) w) (fun ch w => R (.panicked ch) w) w
theorem e_law10_known (R : Ending → World → Prop) (w : World) : vcFn P tab 4000 Tryz.f7.ntmps (Tryz.f7.body.getD .skip) Tryz.f7.results.toList [] R w = d_law10_known R w := by kernel_rfl
theorem t_law10_known (R : Ending → World → Prop) (w : World) (h : d_law10_known R w) : Tr P F.law10_known [] w R :=
  fn_ok (fn := Tryz.f7) (c := Tryz.f7.body.getD .skip) (fuel := 4000) mixed tab_ok Tryz.func7 (by kernel_rfl) (by kernel_rfl) (Nat.le_of_ble_eq_true (by kernel_rfl)) (Eq.mpr (e_law10_known R w) h)
/-- lapidary/lapidarylaw10.taken -/
def d_law10_taken (R : Ending → World → Prop) (a0 : Value) (w : World) : Prop :=
  al a0.cells.toList 25 (fun t1 w =>
  al [.string ⟨#[]⟩, .slice none 0 0, .slice none 0 0, .slice none 0 0, .slice none 0 0] 32 (fun t2 w =>
  fa 0 t1 (fun t8 w =>
  ld t8 (fun t9 w =>
  bd [.string ⟨#[]⟩, .slice none 0 0, .slice none 0 0, .slice none 0 0, .slice none 0 0] [(0, 1, t9)] (fun t10 w =>
  al [.string ⟨#[]⟩, .slice none 0 0, .slice none 0 0, .slice none 0 0, .slice none 0 0] 32 (fun t3 w =>
  st 5 t3 t10 (fun w =>
  fa 2 t3 (fun t11 w =>
  ld t11 (fun t12 w =>
  fa 2 t1 (fun t13 w =>
  ld t13 (fun t14 w =>
  ap 9 1 16 [.string ⟨#[]⟩] t12 t14 (fun t15 w =>
  fa 2 t3 (fun t16 w =>
  st 1 t16 t15 (fun w =>
  fa 3 t3 (fun t17 w =>
  ld t17 (fun t18 w =>
  fa 3 t1 (fun t19 w =>
  ld t19 (fun t20 w =>
  ap 9 1 16 [.string ⟨#[]⟩] t18 t20 (fun t21 w =>
  fa 3 t3 (fun t22 w =>
  st 1 t22 t21 (fun w =>
  fa 4 t3 (fun t23 w =>
  ld t23 (fun t24 w =>
  fa 4 t1 (fun t25 w =>
  ld t25 (fun t26 w =>
  ap 9 1 16 [.string ⟨#[]⟩] t24 t26 (fun t27 w =>
  fa 4 t3 (fun t28 w =>
  st 1 t28 t27 (fun w =>
  lp 1 [(Value.int IntKind.i64 0)] (fun r1 x4 w =>
  fa 1 t1 (fun t30 w =>
  ld t30 (fun t31 w =>
  lnL t31 (fun t32 w =>
  bI .lss .i64 x4 t32 (fun t33 w =>
  cnd t33
  (drw w (fun w =>
  fa 1 t1 (fun t36 w =>
  ld t36 (fun t37 w =>
  ia 3 t37 x4 (fun t39 w =>
  fa 0 t39 (fun t40 w =>
  ld t40 (fun t41 w =>
  fa 1 t1 (fun t42 w =>
  ld t42 (fun t43 w =>
  ia 3 t43 x4 (fun t45 w =>
  fa 1 t45 (fun t46 w =>
  ld t46 (fun t47 w =>
  bd [.int .i64 0, .int .i64 0, .slice none 0 0] [(0, 1, t41), (1, 1, t47)] (fun t48 w =>
  al [.int .i64 0, .int .i64 0, .slice none 0 0] 37 (fun t5 w =>
  rk false t46 t47
  (rk false t42 t43
  (rk false t40 t41
  (rk false t36 t37
  (st 3 t5 t48 (fun w =>
  lp 1 [(Value.int IntKind.i64 0)] (fun r2 x6 w =>
  fa 1 t1 (fun t50 w =>
  ld t50 (fun t51 w =>
  ia 3 t51 x4 (fun t53 w =>
  fa 2 t53 (fun t54 w =>
  ld t54 (fun t55 w =>
  lnL t55 (fun t56 w =>
  bI .lss .i64 x6 t56 (fun t57 w =>
  cnd t57
  (fa 1 t1 (fun t60 w =>
  ld t60 (fun t61 w =>
  ia 3 t61 x4 (fun t63 w =>
  fa 2 t63 (fun t64 w =>
  ld t64 (fun t65 w =>
  ia 3 t65 x6 (fun t67 w =>
  ldn 3 t67 (fun t68 w =>
  al [.int .i64 0, .int .i64 0, .int .i64 0] 57 (fun t7 w =>
  st 3 t7 t68 (fun w =>
  fa 2 t5 (fun t69 w =>
  ld t69 (fun t70 w =>
  fa 0 t7 (fun t71 w =>
  ld t71 (fun t72 w =>
  fa 1 t7 (fun t73 w =>
  ld t73 (fun t74 w =>
  fa 2 t7 (fun t75 w =>
  ld t75 (fun t76 w =>
  bd [.int .i64 0, .int .i64 0, .int .i64 0] [(0, 1, t72), (1, 1, t74), (2, 1, t76)] (fun t77 w =>
  bs 39 [.int .i64 0, .int .i64 0, .int .i64 0] 1 [(0, 3, t77)] (fun t78 w =>
  ap 39 3 24 [.int .i64 0, .int .i64 0, .int .i64 0] t70 t78 (fun t79 w =>
  fa 2 t5 (fun t80 w =>
  st 1 t80 t79 (fun w =>
  bI .add .i64 x6 (Value.int IntKind.i64 1) (fun t59 w =>
  sm [(t1, t1), (t2, t2), (t3, t3), (x4, x4), (t5, t5)] [] [] (r2 [t59] w)) w) w) w) w) w) w) w) w) w) w) w) w) w) w) w) w) w) w) w) w) w) w) w)
  (fa 1 t3 (fun t81 w =>
  ld t81 (fun t82 w =>
  ldn 3 t5 (fun t83 w =>
  bs 37 [.int .i64 0, .int .i64 0, .slice none 0 0] 1 [(0, 3, t83)] (fun t84 w =>
  ap 37 3 40 [.int .i64 0, .int .i64 0, .slice none 0 0] t82 t84 (fun t85 w =>
  fa 1 t3 (fun t86 w =>
  st 1 t86 t85 (fun w =>
  bI .add .i64 x4 (Value.int IntKind.i64 1) (fun t35 w =>
  sm [(t1, t1), (t2, t2), (t3, t3)] [] [] (r1 [t35] w)) w) w) w) w) w) w) w) w)) w) w) w) w) w) w) w) w) w) w) w) w) w) w) w) w) w) w) w) w) w) w) w) w) w))
  (ldn 5 t3 (fun t87 w =>
  st 5 t2 t87 (fun w =>
  ldn 5 t2 (fun r0 w =>
  R (.returned r0) w) w) w) w)) w) w) w) w) w) w) w) w) w) w) w) w) w) w) w) w) w) w) w) w) w) w) w) w) w) w) w) w) w) w) w) w) w
theorem e_law10_taken (R : Ending → World → Prop) (a0 : Value) (w : World) : vcFn P tab 4000 Tryz.f8.ntmps (Tryz.f8.body.getD .skip) Tryz.f8.results.toList [a0] R w = d_law10_taken R a0 w := by kernel_rfl
theorem t_law10_taken (R : Ending → World → Prop) (a0 : Value) (w : World) (h : d_law10_taken R a0 w) : Tr P F.law10_taken [a0] w R :=
  fn_ok (fn := Tryz.f8) (c := Tryz.f8.body.getD .skip) (fuel := 4000) mixed tab_ok Tryz.func8 (by kernel_rfl) (by kernel_rfl) (Nat.le_of_ble_eq_true (by kernel_rfl)) (Eq.mpr (e_law10_taken R a0 w) h)
/-- lapidary/lapidarylaw10.once -/
def d_law10_once (R : Ending → World → Prop) (a0 : Value) (w : World) : Prop :=
  lp 2 [(.bool false), (Value.int IntKind.i64 0)] (fun r1 x2 x3 w =>
  lnL a0 (fun t7 w =>
  bI .lss .i64 x3 t7 (fun t8 w =>
  cnd t8
  (lp 2 [x2, (Value.int IntKind.i64 0)] (fun r2 x2 x4 w =>
  bI .lss .i64 x4 x3 (fun t13 w =>
  cnd t13
  (drw w (fun w =>
  ia 1 a0 x3 (fun t18 w =>
  ld t18 (fun t19 w =>
  ia 1 a0 x4 (fun t22 w =>
  ld t22 (fun t23 w =>
  bS .eql t19 t23 (fun t24 w =>
  cnd t24
  (R (.returned (.bool false)) w)
  (bI .add .i64 x4 (Value.int IntKind.i64 1) (fun t15 w =>
  sm [(a0, a0), (x3, x3)] [] [] (r2 [x2, t15] w)) w)) w) w) w) w) w))
  (bI .add .i64 x3 (Value.int IntKind.i64 1) (fun t10 w =>
  sm [(a0, a0)] [] [] (r1 [x2, t10] w)) w)) w) w)
  (R (.returned (.bool true)) w)) w) w) w
theorem e_law10_once (R : Ending → World → Prop) (a0 : Value) (w : World) : vcFn P tab 4000 Tryz.f9.ntmps (Tryz.f9.body.getD .skip) Tryz.f9.results.toList [a0] R w = d_law10_once R a0 w := by kernel_rfl
theorem t_law10_once (R : Ending → World → Prop) (a0 : Value) (w : World) (h : d_law10_once R a0 w) : Tr P F.law10_once [a0] w R :=
  fn_ok (fn := Tryz.f9) (c := Tryz.f9.body.getD .skip) (fuel := 4000) mixed tab_ok Tryz.func9 (by kernel_rfl) (by kernel_rfl) (Nat.le_of_ble_eq_true (by kernel_rfl)) (Eq.mpr (e_law10_once R a0 w) h)
/-- lapidary/lapidarylaw10.used -/
def d_law10_used (R : Ending → World → Prop) (a0 a1 a2 a3 : Value) (w : World) : Prop :=
  al a0.cells.toList 32 (fun t4 w =>
  lp 2 [(.bool false), (Value.int IntKind.i64 0)] (fun r1 x8 x9 w =>
  bI .lss .i64 x9 a3 (fun t16 w =>
  cnd t16
  (lp 2 [(.bool false), (Value.int IntKind.i64 0)] (fun r2 x10 x11 w =>
  fa 1 t4 (fun t20 w =>
  ld t20 (fun t21 w =>
  lnL t21 (fun t22 w =>
  bI .lss .i64 x11 t22 (fun t23 w =>
  cnd t23
  (lp 2 [x10, (Value.int IntKind.i64 0)] (fun r3 x10 x12 w =>
  fa 1 t4 (fun t27 w =>
  ld t27 (fun t28 w =>
  ia 3 t28 x11 (fun t30 w =>
  fa 2 t30 (fun t31 w =>
  ld t31 (fun t32 w =>
  lnL t32 (fun t33 w =>
  bI .lss .i64 x12 t33 (fun t34 w =>
  cnd t34
  (fa 1 t4 (fun t37 w =>
  ld t37 (fun t38 w =>
  ia 3 t38 x11 (fun t40 w =>
  fa 2 t40 (fun t41 w =>
  ld t41 (fun t42 w =>
  ia 3 t42 x12 (fun t44 w =>
  ldn 3 t44 (fun t45 w =>
  al [.int .i64 0, .int .i64 0, .int .i64 0] 39 (fun t13 w =>
  st 3 t13 t45 (fun w =>
  cnd x10
  (bI .add .i64 x12 (Value.int IntKind.i64 1) (fun t36 w =>
  sm [(a1, a1), (a2, a2), (a3, a3), (t4, t4), (x8, x8), (x9, x9), (x11, x11)] [] [] (r3 [(.bool true), t36] w)) w)
  (fa 1 t13 (fun t48 w =>
  ld t48 (fun t49 w =>
  bI .eql .i64 t49 x9 (fun t51 w =>
  cnd t51
  (fa 0 t13 (fun t53 w =>
  ld t53 (fun t54 w =>
  bI .eql .i64 t54 a1 (fun t56 w =>
  cnd t56
  (bI .add .i64 x12 (Value.int IntKind.i64 1) (fun t36 w =>
  sm [(a1, a1), (a2, a2), (a3, a3), (t4, t4), (x8, x8), (x9, x9), (x11, x11)] [] [] (r3 [(.bool true), t36] w)) w)
  (fa 0 t13 (fun t58 w =>
  ld t58 (fun t59 w =>
  bI .eql .i64 t59 a2 (fun t61 w =>
  bI .add .i64 x12 (Value.int IntKind.i64 1) (fun t36 w =>
  sm [(a1, a1), (a2, a2), (a3, a3), (t4, t4), (x8, x8), (x9, x9), (x11, x11)] [] [] (r3 [t61, t36] w)) w) w) w) w)) w) w) w)
  (bI .add .i64 x12 (Value.int IntKind.i64 1) (fun t36 w =>
  sm [(a1, a1), (a2, a2), (a3, a3), (t4, t4), (x8, x8), (x9, x9), (x11, x11)] [] [] (r3 [(.bool false), t36] w)) w)) w) w) w)) w) w) w) w) w) w) w) w) w)
  (bI .add .i64 x11 (Value.int IntKind.i64 1) (fun t25 w =>
  sm [(a1, a1), (a2, a2), (a3, a3), (t4, t4), (x8, x8), (x9, x9)] [] [] (r2 [x10, t25] w)) w)) w) w) w) w) w) w) w) w)
  (uN x10 (fun t66 w =>
  cnd t66
  (R (.returned (.bool false)) w)
  (bI .add .i64 x9 (Value.int IntKind.i64 1) (fun t18 w =>
  sm [(a1, a1), (a2, a2), (a3, a3), (t4, t4)] [] [] (r1 [x8, t18] w)) w)) w)) w) w) w) w) w)
  (R (.returned (.bool true)) w)) w) w) w
theorem e_law10_used (R : Ending → World → Prop) (a0 a1 a2 a3 : Value) (w : World) : vcFn P tab 4000 Tryz.f10.ntmps (Tryz.f10.body.getD .skip) Tryz.f10.results.toList [a0, a1, a2, a3] R w = d_law10_used R a0 a1 a2 a3 w := by kernel_rfl
theorem t_law10_used (R : Ending → World → Prop) (a0 a1 a2 a3 : Value) (w : World) (h : d_law10_used R a0 a1 a2 a3 w) : Tr P F.law10_used [a0, a1, a2, a3] w R :=
  fn_ok (fn := Tryz.f10) (c := Tryz.f10.body.getD .skip) (fuel := 4000) mixed tab_ok Tryz.func10 (by kernel_rfl) (by kernel_rfl) (Nat.le_of_ble_eq_true (by kernel_rfl)) (Eq.mpr (e_law10_used R a0 a1 a2 a3 w) h)
/-- lapidary/code.Method -/
def d_code_Method (R : Ending → World → Prop) (a0 a1 : Value) (w : World) : Prop :=
  al [.string ⟨#[]⟩, .slice none 0 0, .slice none 0 0, .slice none 0 0, .slice none 0 0] 25 (fun t4 w =>
  cl P F.tree_Method [a0] (fun t12 w =>
  ex t12 0 (fun t13 w =>
  ex t12 1 (fun t14 w =>
  ex t12 2 (fun t15 w =>
  al [.int .i64 0, .string ⟨#[]⟩, .int .i64 0, .int .i64 0, .slice none 0 0, .slice none 0 0] 50 (fun t7 w =>
  st 6 t7 t13 (fun w =>
  bI .neq .i64 t15 (Value.int IntKind.i64 0) (fun t17 w =>
  cnd t17
  (bd [.string ⟨#[]⟩, .slice none 0 0, .slice none 0 0, .slice none 0 0, .slice none 0 0] [] (fun t18 w =>
  st 5 t4 t18 (fun w =>
  ldn 5 t4 (fun r0 w =>
  R (.returned (.tuple #[r0, t14, t15])) w) w) w) w)
  (ldn 6 t7 (fun t21 w =>
  cl P F.code_Make [t21, a1] (fun t23 w =>
  ex t23 0 (fun t24 w =>
  ex t23 1 (fun t25 w =>
  ex t23 2 (fun t26 w =>
  st 5 t4 t24 (fun w =>
  ldn 5 t4 (fun r0 w =>
  R (.returned (.tuple #[r0, t25, t26])) w) w) w) w) w) w) (fun ch w => R (.panicked ch) w) w) w)) w) w) w) w) w) w) (fun ch w => R (.panicked ch) w) w) w
theorem e_code_Method (R : Ending → World → Prop) (a0 a1 : Value) (w : World) : vcFn P tab 4000 Tryz.f11.ntmps (Tryz.f11.body.getD .skip) Tryz.f11.results.toList [a0, a1] R w = d_code_Method R a0 a1 w := by kernel_rfl
theorem t_code_Method (R : Ending → World → Prop) (a0 a1 : Value) (w : World) (h : d_code_Method R a0 a1 w) : Tr P F.code_Method [a0, a1] w R :=
  fn_ok (fn := Tryz.f11) (c := Tryz.f11.body.getD .skip) (fuel := 4000) mixed tab_ok Tryz.func11 (by kernel_rfl) (by kernel_rfl) (Nat.le_of_ble_eq_true (by kernel_rfl)) (Eq.mpr (e_code_Method R a0 a1 w) h)
/-- lapidary/lapidaryref10.Same -/
def d_ref10_Same (R : Ending → World → Prop) (a0 a1 : Value) (w : World) : Prop :=
  al a0.cells.toList 32 (fun t2 w =>
  al a1.cells.toList 32 (fun t3 w =>
  jn 1 (fun x4 w =>
  lp 2 [x4, (Value.int IntKind.i64 0)] (fun r2 x4 x5 w =>
  fa 1 t2 (fun t48 w =>
  ld t48 (fun t49 w =>
  lnL t49 (fun t50 w =>
  bI .lss .i64 x5 t50 (fun t51 w =>
  cnd t51
  (fa 1 t2 (fun t54 w =>
  ld t54 (fun t55 w =>
  ia 3 t55 x5 (fun t57 w =>
  ldn 3 t57 (fun t58 w =>
  al [.int .i64 0, .int .i64 0, .slice none 0 0] 37 (fun t6 w =>
  st 3 t6 t58 (fun w =>
  fa 1 t3 (fun t59 w =>
  ld t59 (fun t60 w =>
  ia 3 t60 x5 (fun t62 w =>
  ldn 3 t62 (fun t63 w =>
  al [.int .i64 0, .int .i64 0, .slice none 0 0] 37 (fun t7 w =>
  st 3 t7 t63 (fun w =>
  jn 13 (fun x4 x70 x71 x72 x73 x74 x77 x78 x79 x80 x81 x82 x83 w =>
  lp 2 [x4, (Value.int IntKind.i64 0)] (fun r4 x4 x8 w =>
  fa 2 t6 (fun t86 w =>
  ld t86 (fun t87 w =>
  lnL t87 (fun t88 w =>
  bI .lss .i64 x8 t88 (fun t89 w =>
  cnd t89
  (drw w (fun w =>
  fa 2 t6 (fun t92 w =>
  ld t92 (fun t93 w =>
  ia 3 t93 x8 (fun t95 w =>
  ldn 3 t95 (fun t96 w =>
  fa 2 t7 (fun t97 w =>
  ld t97 (fun t98 w =>
  ia 3 t98 x8 (fun t100 w =>
  ldn 3 t100 (fun t101 w =>
  rV P (eqRun .neq 39 (Operand.tmp 96) (Operand.tmp 101) t96 t101) (fun t102 w =>
  cnd t102
  (R (.returned (.bool false)) w)
  (bI .add .i64 x8 (Value.int IntKind.i64 1) (fun t91 w =>
  sm [(t2, t2), (t3, t3), (x5, x5), (t6, t6), (t7, t7), (x70, x70), (x71, x71), (x72, x72), (x73, x73), (x74, x74), (x77, x77), (x78, x78), (x79, x79), (x80, x80), (x81, x81), (x82, x82), (x83, x83)] [] [] (r4 [x4, t91] w)) w)) w) w) w) w) w) w) w) w) w))
  (bI .add .i64 x5 (Value.int IntKind.i64 1) (fun t53 w =>
  sm [(t2, t2), (t3, t3)] [] [] (r2 [x4, t53] w)) w)) w) w) w) w) w) (fun k3 =>
  fa 0 t6 (fun t64 w =>
  ld t64 (fun t65 w =>
  fa 0 t7 (fun t66 w =>
  ld t66 (fun t67 w =>
  bI .neq .i64 t65 t67 (fun t68 w =>
  cnd t68
  (R (.returned (.bool false)) w)
  (fa 1 t6 (fun t70 w =>
  ld t70 (fun t71 w =>
  fa 1 t7 (fun t72 w =>
  ld t72 (fun t73 w =>
  bI .neq .i64 t71 t73 (fun t74 w =>
  cnd t74
  (R (.returned (.bool false)) w)
  (fa 2 t6 (fun t77 w =>
  ld t77 (fun t78 w =>
  lnL t78 (fun t79 w =>
  fa 2 t7 (fun t80 w =>
  ld t80 (fun t81 w =>
  lnL t81 (fun t82 w =>
  bI .neq .i64 t79 t82 (fun t83 w =>
  cnd t83
  (R (.returned (.bool false)) w)
  (sm [(t2, t2), (t3, t3), (x5, x5), (t6, t6), (t7, t7)] [] [] (k3 x4 t70 t71 t72 t73 t74 t77 t78 t79 t80 t81 t82 t83 w))) w) w) w) w) w) w) w)) w) w) w) w) w)) w) w) w) w) w)) w) w) w) w) w) w) w) w) w) w) w) w)
  (R (.returned (.bool true)) w)) w) w) w) w) w) (fun k1 =>
  fa 0 t2 (fun t9 w =>
  ld t9 (fun t10 w =>
  fa 0 t3 (fun t11 w =>
  ld t11 (fun t12 w =>
  bS .neq t10 t12 (fun t13 w =>
  cnd t13
  (R (.returned (.bool false)) w)
  (fa 2 t2 (fun t15 w =>
  ld t15 (fun t16 w =>
  fa 2 t3 (fun t17 w =>
  ld t17 (fun t18 w =>
  cl P F.ref10_Texts [t16, t18] (fun t19 w =>
  uN t19 (fun t20 w =>
  cnd t20
  (R (.returned (.bool false)) w)
  (fa 3 t2 (fun t23 w =>
  ld t23 (fun t24 w =>
  fa 3 t3 (fun t25 w =>
  ld t25 (fun t26 w =>
  cl P F.ref10_Texts [t24, t26] (fun t27 w =>
  uN t27 (fun t28 w =>
  cnd t28
  (R (.returned (.bool false)) w)
  (fa 4 t2 (fun t31 w =>
  ld t31 (fun t32 w =>
  fa 4 t3 (fun t33 w =>
  ld t33 (fun t34 w =>
  cl P F.ref10_Texts [t32, t34] (fun t35 w =>
  uN t35 (fun t36 w =>
  cnd t36
  (R (.returned (.bool false)) w)
  (fa 1 t2 (fun t39 w =>
  ld t39 (fun t40 w =>
  lnL t40 (fun t41 w =>
  fa 1 t3 (fun t42 w =>
  ld t42 (fun t43 w =>
  lnL t43 (fun t44 w =>
  bI .neq .i64 t41 t44 (fun t45 w =>
  cnd t45
  (R (.returned (.bool false)) w)
  (sm [(t2, t2), (t3, t3)] [] [] (k1 (.bool false) w))) w) w) w) w) w) w) w)) w) (fun ch w => R (.panicked ch) w) w) w) w) w) w)) w) (fun ch w => R (.panicked ch) w) w) w) w) w) w)) w) (fun ch w => R (.panicked ch) w) w) w) w) w) w)) w) w) w) w) w)) w) w
theorem e_ref10_Same (R : Ending → World → Prop) (a0 a1 : Value) (w : World) : vcFn P tab 4000 Tryz.f13.ntmps (Tryz.f13.body.getD .skip) Tryz.f13.results.toList [a0, a1] R w = d_ref10_Same R a0 a1 w := by kernel_rfl
theorem t_ref10_Same (R : Ending → World → Prop) (a0 a1 : Value) (w : World) (h : d_ref10_Same R a0 a1 w) : Tr P F.ref10_Same [a0, a1] w R :=
  fn_ok (fn := Tryz.f13) (c := Tryz.f13.body.getD .skip) (fuel := 4000) mixed tab_ok Tryz.func13 (by kernel_rfl) (by kernel_rfl) (Nat.le_of_ble_eq_true (by kernel_rfl)) (Eq.mpr (e_ref10_Same R a0 a1 w) h)
/-- lapidary/code.Check -/
def d_code_Check (R : Ending → World → Prop) (a0 a1 : Value) (w : World) : Prop :=
  al a0.cells.toList 25 (fun t2 w =>
  fa 1 t2 (fun t7 w =>
  ld t7 (fun t8 w =>
  lnL t8 (fun t9 w =>
  bI .eql .i64 t9 (Value.int IntKind.i64 0) (fun t10 w =>
  cnd t10
  (R (.returned (Value.int IntKind.i64 11)) w)
  (fa 1 t2 (fun t11 w =>
  ld t11 (fun t12 w =>
  lnL t12 (fun t13 w =>
  lp 2 [(Value.int IntKind.i64 0), (Value.int IntKind.i64 0)] (fun r1 x4 x14 w =>
  bI .lss .i64 x14 t13 (fun t15 w =>
  cnd t15
  (ia 3 t12 x14 (fun t16 w =>
  ldn 3 t16 (fun t17 w =>
  al [.int .i64 0, .int .i64 0, .slice none 0 0] 56 (fun t6 w =>
  st 3 t6 t17 (fun w =>
  ldn 5 t2 (fun t18 w =>
  ldn 3 t6 (fun t19 w =>
  cl P F.code_Code_good [t18, t19, a1] (fun t21 w =>
  uN t21 (fun t22 w =>
  cnd t22
  (R (.returned (Value.int IntKind.i64 11)) w)
  (bI .add .i64 x14 (Value.int IntKind.i64 1) (fun t23 w =>
  sm [(a1, a1), (t2, t2), (t12, t12), (t13, t13)] [] [] (r1 [x4, t23] w)) w)) w) (fun ch w => R (.panicked ch) w) w) w) w) w) w) w) w)
  (R (.returned (Value.int IntKind.i64 0)) w)) w) w) w) w) w)) w) w) w) w) w
theorem e_code_Check (R : Ending → World → Prop) (a0 a1 : Value) (w : World) : vcFn P tab 4000 Tryz.f14.ntmps (Tryz.f14.body.getD .skip) Tryz.f14.results.toList [a0, a1] R w = d_code_Check R a0 a1 w := by kernel_rfl
theorem t_code_Check (R : Ending → World → Prop) (a0 a1 : Value) (w : World) (h : d_code_Check R a0 a1 w) : Tr P F.code_Check [a0, a1] w R :=
  fn_ok (fn := Tryz.f14) (c := Tryz.f14.body.getD .skip) (fuel := 4000) mixed tab_ok Tryz.func14 (by kernel_rfl) (by kernel_rfl) (Nat.le_of_ble_eq_true (by kernel_rfl)) (Eq.mpr (e_code_Check R a0 a1 w) h)
/-- lapidary/lapidaryref10.Check -/
def d_ref10_Check (R : Ending → World → Prop) (a0 a1 : Value) (w : World) : Prop :=
  al a0.cells.toList 32 (fun t2 w =>
  fa 1 t2 (fun t12 w =>
  ld t12 (fun t13 w =>
  lnL t13 (fun t14 w =>
  bI .gtr .i64 t14 (Value.int IntKind.i64 0) (fun t15 w =>
  lp 2 [t15, (Value.int IntKind.i64 0)] (fun r1 x5 x6 w =>
  fa 1 t2 (fun t17 w =>
  ld t17 (fun t18 w =>
  lnL t18 (fun t19 w =>
  bI .lss .i64 x6 t19 (fun t20 w =>
  cnd t20
  (fa 1 t2 (fun t23 w =>
  ld t23 (fun t24 w =>
  ia 3 t24 x6 (fun t26 w =>
  ldn 3 t26 (fun t27 w =>
  al [.int .i64 0, .int .i64 0, .slice none 0 0] 37 (fun t7 w =>
  st 3 t7 t27 (fun w =>
  ldn 3 t7 (fun t29 w =>
  cl P F.ref10_gone [t29] (fun t30 w =>
  ex t30 0 (fun t31 w =>
  ex t30 1 (fun t32 w =>
  jn 17 (fun x5 x35 x36 x39 x40 x43 x44 x45 x46 x49 x50 x51 x54 x55 x56 x57 x58 w =>
  lp 2 [x5, (Value.int IntKind.i64 0)] (fun r3 x5 x10 w =>
  fa 2 t7 (fun t61 w =>
  ld t61 (fun t62 w =>
  lnL t62 (fun t63 w =>
  bI .lss .i64 x10 t63 (fun t64 w =>
  cnd t64
  (jn 8 (fun x11 x75 x76 x77 x78 x79 x80 x81 w =>
  drw w (fun w =>
  cnd x5
  (fa 2 t7 (fun t87 w =>
  ld t87 (fun t88 w =>
  lnL t88 (fun t89 w =>
  bI .sub .i64 t89 (Value.int IntKind.i64 1) (fun t90 w =>
  bI .eql .i64 x10 t90 (fun t91 w =>
  bB .eql x11 t91 (fun t92 w =>
  cnd t92
  (ldn 5 t2 (fun t95 w =>
  fa 2 t7 (fun t96 w =>
  ld t96 (fun t97 w =>
  ia 3 t97 x10 (fun t99 w =>
  ldn 3 t99 (fun t100 w =>
  cl P F.ref10_right [t95, t100, a1] (fun t102 w =>
  bI .add .i64 x10 (Value.int IntKind.i64 1) (fun t66 w =>
  sm [(a1, a1), (t2, t2), ((Value.int IntKind.i64 0), (Value.int IntKind.i64 0)), (x6, x6), (t7, t7), (x35, x35), (x36, x36), (x39, x39), (x40, x40), (x43, x43), (x44, x44), (x45, x45), (x46, x46), (x49, x49), (x50, x50), (x51, x51), (x54, x54), (x55, x55), (x56, x56), (x57, x57), (x58, x58)] [] [] (r3 [t102, t66] w)) w) (fun ch w => R (.panicked ch) w) w) w) w) w) w) w)
  (bI .add .i64 x10 (Value.int IntKind.i64 1) (fun t66 w =>
  sm [(a1, a1), (t2, t2), ((Value.int IntKind.i64 0), (Value.int IntKind.i64 0)), (x6, x6), (t7, t7), (x35, x35), (x36, x36), (x39, x39), (x40, x40), (x43, x43), (x44, x44), (x45, x45), (x46, x46), (x49, x49), (x50, x50), (x51, x51), (x54, x54), (x55, x55), (x56, x56), (x57, x57), (x58, x58)] [] [] (r3 [(.bool false), t66] w)) w)) w) w) w) w) w) w)
  (bI .add .i64 x10 (Value.int IntKind.i64 1) (fun t66 w =>
  sm [(a1, a1), (t2, t2), ((Value.int IntKind.i64 0), (Value.int IntKind.i64 0)), (x6, x6), (t7, t7), (x35, x35), (x36, x36), (x39, x39), (x40, x40), (x43, x43), (x44, x44), (x45, x45), (x46, x46), (x49, x49), (x50, x50), (x51, x51), (x54, x54), (x55, x55), (x56, x56), (x57, x57), (x58, x58)] [] [] (r3 [(.bool false), t66] w)) w))) (fun k4 =>
  fa 2 t7 (fun t67 w =>
  ld t67 (fun t68 w =>
  ia 3 t68 x10 (fun t70 w =>
  fa 0 t70 (fun t71 w =>
  ld t71 (fun t72 w =>
  bI .eql .i64 t72 (Value.int IntKind.i64 13) (fun t73 w =>
  cnd t73
  (sm [(a1, a1), (t2, t2), ((Value.int IntKind.i64 0), (Value.int IntKind.i64 0)), (x5, x5), (x6, x6), (t7, t7), (x10, x10), (x35, x35), (x36, x36), (x39, x39), (x40, x40), (x43, x43), (x44, x44), (x45, x45), (x46, x46), (x49, x49), (x50, x50), (x51, x51), (x54, x54), (x55, x55), (x56, x56), (x57, x57), (x58, x58)] [] [] (k4 (.bool true) undef undef undef undef undef undef undef w))
  (fa 2 t7 (fun t75 w =>
  ld t75 (fun t76 w =>
  ia 3 t76 x10 (fun t78 w =>
  fa 0 t78 (fun t79 w =>
  ld t79 (fun t80 w =>
  bI .eql .i64 t80 (Value.int IntKind.i64 14) (fun t81 w =>
  sm [(a1, a1), (t2, t2), ((Value.int IntKind.i64 0), (Value.int IntKind.i64 0)), (x5, x5), (x6, x6), (t7, t7), (x10, x10), (x35, x35), (x36, x36), (x39, x39), (x40, x40), (x43, x43), (x44, x44), (x45, x45), (x46, x46), (x49, x49), (x50, x50), (x51, x51), (x54, x54), (x55, x55), (x56, x56), (x57, x57), (x58, x58)] [] [] (k4 t81 t75 t76 x10 t78 t79 t80 t81 w)) w) w) w) w) w) w)) w) w) w) w) w) w))
  (bI .add .i64 x6 (Value.int IntKind.i64 1) (fun t22 w =>
  sm [(a1, a1), (t2, t2), ((Value.int IntKind.i64 0), (Value.int IntKind.i64 0))] [] [] (r1 [x5, t22] w)) w)) w) w) w) w) w) (fun k2 =>
  cnd x5
  (bI .geq .i64 t31 (Value.int IntKind.i64 0) (fun t36 w =>
  cnd t36
  (bI .eql .i64 t32 (Value.int IntKind.i64 0) (fun t40 w =>
  cnd t40
  (fa 2 t7 (fun t43 w =>
  ld t43 (fun t44 w =>
  lnL t44 (fun t45 w =>
  bI .gtr .i64 t45 (Value.int IntKind.i64 0) (fun t46 w =>
  cnd t46
  (fa 0 t7 (fun t49 w =>
  ld t49 (fun t50 w =>
  bI .geq .i64 t50 (Value.int IntKind.i64 0) (fun t51 w =>
  cnd t51
  (fa 0 t7 (fun t54 w =>
  ld t54 (fun t55 w =>
  fa 1 t7 (fun t56 w =>
  ld t56 (fun t57 w =>
  bI .leq .i64 t55 t57 (fun t58 w =>
  sm [(a1, a1), (t2, t2), ((Value.int IntKind.i64 0), (Value.int IntKind.i64 0)), (x6, x6), (t7, t7)] [] [] (k2 t58 t31 t36 t32 t40 t43 t44 t45 t46 t49 t50 t51 t54 t55 t56 t57 t58 w)) w) w) w) w) w)
  (sm [(a1, a1), (t2, t2), ((Value.int IntKind.i64 0), (Value.int IntKind.i64 0)), (x6, x6), (t7, t7)] [] [] (k2 (.bool false) t31 t36 t32 t40 t43 t44 t45 t46 t49 t50 t51 undef undef undef undef undef w))) w) w) w)
  (sm [(a1, a1), (t2, t2), ((Value.int IntKind.i64 0), (Value.int IntKind.i64 0)), (x6, x6), (t7, t7)] [] [] (k2 (.bool false) t31 t36 t32 t40 t43 t44 t45 t46 undef undef undef undef undef undef undef undef w))) w) w) w) w)
  (sm [(a1, a1), (t2, t2), ((Value.int IntKind.i64 0), (Value.int IntKind.i64 0)), (x6, x6), (t7, t7)] [] [] (k2 (.bool false) t31 t36 t32 t40 undef undef undef undef undef undef undef undef undef undef undef undef w))) w)
  (sm [(a1, a1), (t2, t2), ((Value.int IntKind.i64 0), (Value.int IntKind.i64 0)), (x6, x6), (t7, t7)] [] [] (k2 (.bool false) t31 t36 undef undef undef undef undef undef undef undef undef undef undef undef undef undef w))) w)
  (sm [(a1, a1), (t2, t2), ((Value.int IntKind.i64 0), (Value.int IntKind.i64 0)), (x6, x6), (t7, t7)] [] [] (k2 (.bool false) undef undef undef undef undef undef undef undef undef undef undef undef undef undef undef undef w)))) w) w) (fun ch w => R (.panicked ch) w) w) w) w) w) w) w) w) w)
  (uN x5 (fun t105 w =>
  cnd t105
  (R (.returned (Value.int IntKind.i64 11)) w)
  (R (.returned (Value.int IntKind.i64 0)) w)) w)) w) w) w) w) w) w) w) w) w) w
theorem e_ref10_Check (R : Ending → World → Prop) (a0 a1 : Value) (w : World) : vcFn P tab 4000 Tryz.f15.ntmps (Tryz.f15.body.getD .skip) Tryz.f15.results.toList [a0, a1] R w = d_ref10_Check R a0 a1 w := by kernel_rfl
theorem t_ref10_Check (R : Ending → World → Prop) (a0 a1 : Value) (w : World) (h : d_ref10_Check R a0 a1 w) : Tr P F.ref10_Check [a0, a1] w R :=
  fn_ok (fn := Tryz.f15) (c := Tryz.f15.body.getD .skip) (fuel := 4000) mixed tab_ok Tryz.func15 (by kernel_rfl) (by kernel_rfl) (Nat.le_of_ble_eq_true (by kernel_rfl)) (Eq.mpr (e_ref10_Check R a0 a1 w) h)
/-- lapidary/tree.Parse -/
def d_tree_Parse (R : Ending → World → Prop) (a0 : Value) (w : World) : Prop :=
  al [.int .i64 0, .string ⟨#[]⟩, .int .i64 0, .int .i64 0, .slice none 0 0, .slice none 0 0] 50 (fun t2 w =>
  cl P F.tree_unit [a0, (.func (.func F.tree_Parse_1) #[] #[])] (fun t6 w =>
  ex t6 0 (fun t7 w =>
  ex t6 1 (fun t8 w =>
  ex t6 2 (fun t9 w =>
  st 6 t2 t7 (fun w =>
  ldn 6 t2 (fun r0 w =>
  R (.returned (.tuple #[r0, t8, t9])) w) w) w) w) w) w) (fun ch w => R (.panicked ch) w) w) w
theorem e_tree_Parse (R : Ending → World → Prop) (a0 : Value) (w : World) : vcFn P tab 4000 Tryz.f16.ntmps (Tryz.f16.body.getD .skip) Tryz.f16.results.toList [a0] R w = d_tree_Parse R a0 w := by kernel_rfl
theorem t_tree_Parse (R : Ending → World → Prop) (a0 : Value) (w : World) (h : d_tree_Parse R a0 w) : Tr P F.tree_Parse [a0] w R :=
  fn_ok (fn := Tryz.f16) (c := Tryz.f16.body.getD .skip) (fuel := 4000) mixed tab_ok Tryz.func16 (by kernel_rfl) (by kernel_rfl) (Nat.le_of_ble_eq_true (by kernel_rfl)) (Eq.mpr (e_tree_Parse R a0 w) h)
/-- lapidary/code.Make -/
def d_code_Make (R : Ending → World → Prop) (a0 a1 : Value) (w : World) : Prop :=
  al a0.cells.toList 50 (fun t2 w =>
  al [.string ⟨#[]⟩, .slice none 0 0, .slice none 0 0, .slice none 0 0, .slice none 0 0] 25 (fun t4 w =>
  ldn 6 t2 (fun t12 w =>
  cl P F.scope_Resolve [t12, a1] (fun t14 w =>
  ex t14 0 (fun t15 w =>
  ex t14 1 (fun t16 w =>
  ex t14 2 (fun t17 w =>
  bI .neq .i64 t17 (Value.int IntKind.i64 0) (fun t19 w =>
  cnd t19
  (bd [.string ⟨#[]⟩, .slice none 0 0, .slice none 0 0, .slice none 0 0, .slice none 0 0] [] (fun t20 w =>
  st 5 t4 t20 (fun w =>
  ldn 5 t4 (fun r0 w =>
  R (.returned (.tuple #[r0, t16, t17])) w) w) w) w)
  (fa 1 t2 (fun t23 w =>
  ld t23 (fun t24 w =>
  bd [.string ⟨#[]⟩, .slice none 0 0, .slice none 0 0, .slice none 0 0, .slice none 0 0] [(0, 1, t24)] (fun t25 w =>
  bd [.string ⟨#[]⟩, .slice none 0 0, .slice none 0 0, .slice none 0 0, .slice none 0 0, .slice none 0 0] [(0, 5, t25), (5, 1, t15)] (fun t27 w =>
  al t27.cells.toList 78 (fun t28 w =>
  ldn 6 t2 (fun t30 w =>
  cl P F.code_maker_unit [t28, t30] (fun t31 w =>
  nc t28 (fun t33 w =>
  fa 0 t33 (fun t34 w =>
  ldn 5 t34 (fun t35 w =>
  st 5 t4 t35 (fun w =>
  ldn 5 t4 (fun r0 w =>
  R (.returned (.tuple #[r0, (Value.int IntKind.i64 0), (Value.int IntKind.i64 0)])) w) w) w) w) w) w) (fun ch w => R (.panicked ch) w) w) w) w) w) w) w) w)) w) w) w) w) (fun ch w => R (.panicked ch) w) w) w) w) w
theorem e_code_Make (R : Ending → World → Prop) (a0 a1 : Value) (w : World) : vcFn P tab 4000 Tryz.f17.ntmps (Tryz.f17.body.getD .skip) Tryz.f17.results.toList [a0, a1] R w = d_code_Make R a0 a1 w := by kernel_rfl
theorem t_code_Make (R : Ending → World → Prop) (a0 a1 : Value) (w : World) (h : d_code_Make R a0 a1 w) : Tr P F.code_Make [a0, a1] w R :=
  fn_ok (fn := Tryz.f17) (c := Tryz.f17.body.getD .skip) (fuel := 4000) mixed tab_ok Tryz.func17 (by kernel_rfl) (by kernel_rfl) (Nat.le_of_ble_eq_true (by kernel_rfl)) (Eq.mpr (e_code_Make R a0 a1 w) h)
/-- lapidary/tree.Method -/
def d_tree_Method (R : Ending → World → Prop) (a0 : Value) (w : World) : Prop :=
  al [.int .i64 0, .string ⟨#[]⟩, .int .i64 0, .int .i64 0, .slice none 0 0, .slice none 0 0] 50 (fun t2 w =>
  cl P F.tree_unit [a0, (.func (.func F.tree_parser_pattern) #[] #[])] (fun t6 w =>
  ex t6 0 (fun t7 w =>
  ex t6 1 (fun t8 w =>
  ex t6 2 (fun t9 w =>
  st 6 t2 t7 (fun w =>
  ldn 6 t2 (fun r0 w =>
  R (.returned (.tuple #[r0, t8, t9])) w) w) w) w) w) w) (fun ch w => R (.panicked ch) w) w) w
theorem e_tree_Method (R : Ending → World → Prop) (a0 : Value) (w : World) : vcFn P tab 4000 Tryz.f18.ntmps (Tryz.f18.body.getD .skip) Tryz.f18.results.toList [a0] R w = d_tree_Method R a0 w := by kernel_rfl
theorem t_tree_Method (R : Ending → World → Prop) (a0 : Value) (w : World) (h : d_tree_Method R a0 w) : Tr P F.tree_Method [a0] w R :=
  fn_ok (fn := Tryz.f18) (c := Tryz.f18.body.getD .skip) (fuel := 4000) mixed tab_ok Tryz.func18 (by kernel_rfl) (by kernel_rfl) (Nat.le_of_ble_eq_true (by kernel_rfl)) (Eq.mpr (e_tree_Method R a0 w) h)
/-- lapidary/lapidaryref10.Texts -/
def d_ref10_Texts (R : Ending → World → Prop) (a0 a1 : Value) (w : World) : Prop :=
  lnL a0 (fun t7 w =>
  lnL a1 (fun t9 w =>
  bI .neq .i64 t7 t9 (fun t10 w =>
  cnd t10
  (R (.returned (.bool false)) w)
  (lp 2 [(.bool false), (Value.int IntKind.i64 0)] (fun r1 x4 x5 w =>
  lnL a0 (fun t13 w =>
  bI .lss .i64 x5 t13 (fun t14 w =>
  cnd t14
  (drw w (fun w =>
  ia 1 a0 x5 (fun t19 w =>
  ld t19 (fun t20 w =>
  ia 1 a1 x5 (fun t23 w =>
  ld t23 (fun t24 w =>
  bS .neq t20 t24 (fun t25 w =>
  cnd t25
  (R (.returned (.bool false)) w)
  (bI .add .i64 x5 (Value.int IntKind.i64 1) (fun t16 w =>
  sm [(a0, a0), (a1, a1)] [] [] (r1 [x4, t16] w)) w)) w) w) w) w) w))
  (R (.returned (.bool true)) w)) w) w) w)) w) w) w
theorem e_ref10_Texts (R : Ending → World → Prop) (a0 a1 : Value) (w : World) : vcFn P tab 4000 Tryz.f21.ntmps (Tryz.f21.body.getD .skip) Tryz.f21.results.toList [a0, a1] R w = d_ref10_Texts R a0 a1 w := by kernel_rfl
theorem t_ref10_Texts (R : Ending → World → Prop) (a0 a1 : Value) (w : World) (h : d_ref10_Texts R a0 a1 w) : Tr P F.ref10_Texts [a0, a1] w R :=
  fn_ok (fn := Tryz.f21) (c := Tryz.f21.body.getD .skip) (fuel := 4000) mixed tab_ok Tryz.func21 (by kernel_rfl) (by kernel_rfl) (Nat.le_of_ble_eq_true (by kernel_rfl)) (Eq.mpr (e_ref10_Texts R a0 a1 w) h)
/-- (lapidary/code.Code).good -/
def d_code_Code_good (R : Ending → World → Prop) (a0 a1 a2 : Value) (w : World) : Prop :=
  al a0.cells.toList 25 (fun t3 w =>
  al a1.cells.toList 56 (fun t4 w =>
  ldn 3 t4 (fun t14 w =>
  cl P F.code_Unit_run [t14] (fun t15 w =>
  ex t15 0 (fun t16 w =>
  ex t15 1 (fun t17 w =>
  ex t15 2 (fun t18 w =>
  jn 1 (fun x6 w =>
  fa 2 t4 (fun t43 w =>
  ld t43 (fun t44 w =>
  lnL t44 (fun t45 w =>
  lp 2 [x6, (Value.int IntKind.i64 0)] (fun r2 x6 x46 w =>
  bI .lss .i64 x46 t45 (fun t47 w =>
  cnd t47
  (ia 3 t44 x46 (fun t49 w =>
  ldn 3 t49 (fun t50 w =>
  al [.int .i64 0, .int .i64 0, .int .i64 0] 57 (fun t11 w =>
  st 3 t11 t50 (fun w =>
  jn 4 (fun x12 x55 x56 x57 w =>
  fa 2 t4 (fun t61 w =>
  ld t61 (fun t62 w =>
  lnL t62 (fun t63 w =>
  bI .sub .i64 t63 (Value.int IntKind.i64 1) (fun t64 w =>
  bI .eql .i64 x46 t64 (fun t65 w =>
  bB .neq x12 t65 (fun t66 w =>
  cnd t66
  (R (.returned (.bool false)) w)
  (ldn 5 t3 (fun t68 w =>
  ldn 3 t11 (fun t69 w =>
  cl P F.code_Code_names [t68, t69, a2] (fun t71 w =>
  uN t71 (fun t72 w =>
  cnd t72
  (R (.returned (.bool false)) w)
  (bI .add .i64 x46 (Value.int IntKind.i64 1) (fun t74 w =>
  sm [(a2, a2), (t3, t3), (t4, t4), (t44, t44), (t45, t45)] [] [] (r2 [x6, t74] w)) w)) w) (fun ch w => R (.panicked ch) w) w) w) w)) w) w) w) w) w) w) (fun k3 =>
  fa 0 t11 (fun t51 w =>
  ld t51 (fun t52 w =>
  bI .eql .i64 t52 (Value.int IntKind.i64 13) (fun t53 w =>
  cnd t53
  (sm [(a2, a2), (t3, t3), (t4, t4), (x6, x6), (x46, x46), (t11, t11), (t44, t44), (t45, t45), (x46, x46)] [] [] (k3 (.bool true) undef undef undef w))
  (fa 0 t11 (fun t55 w =>
  ld t55 (fun t56 w =>
  bI .eql .i64 t56 (Value.int IntKind.i64 14) (fun t57 w =>
  sm [(a2, a2), (t3, t3), (t4, t4), (x6, x6), (x46, x46), (t11, t11), (t44, t44), (t45, t45), (x46, x46)] [] [] (k3 t57 t55 t56 t57 w)) w) w) w)) w) w) w)) w) w) w) w)
  (R (.returned (.bool true)) w)) w) w) w) w) w) (fun k1 =>
  uN t18 (fun t20 w =>
  cnd t20
  (R (.returned (.bool false)) w)
  (bI .neq .i64 t17 (Value.int IntKind.i64 0) (fun t23 w =>
  cnd t23
  (R (.returned (.bool false)) w)
  (fa 2 t4 (fun t26 w =>
  ld t26 (fun t27 w =>
  lnL t27 (fun t28 w =>
  bI .eql .i64 t28 (Value.int IntKind.i64 0) (fun t29 w =>
  cnd t29
  (R (.returned (.bool false)) w)
  (fa 0 t4 (fun t32 w =>
  ld t32 (fun t33 w =>
  bI .lss .i64 t33 (Value.int IntKind.i64 0) (fun t34 w =>
  cnd t34
  (R (.returned (.bool false)) w)
  (fa 0 t4 (fun t37 w =>
  ld t37 (fun t38 w =>
  fa 1 t4 (fun t39 w =>
  ld t39 (fun t40 w =>
  bI .gtr .i64 t38 t40 (fun t41 w =>
  cnd t41
  (R (.returned (.bool false)) w)
  (sm [(a2, a2), (t3, t3), (t4, t4)] [] [] (k1 (.bool false) w))) w) w) w) w) w)) w) w) w)) w) w) w) w)) w)) w)) w) w) w) (fun ch w => R (.panicked ch) w) w) w) w) w
theorem e_code_Code_good (R : Ending → World → Prop) (a0 a1 a2 : Value) (w : World) : vcFn P tab 4000 Tryz.f22.ntmps (Tryz.f22.body.getD .skip) Tryz.f22.results.toList [a0, a1, a2] R w = d_code_Code_good R a0 a1 a2 w := by kernel_rfl
theorem t_code_Code_good (R : Ending → World → Prop) (a0 a1 a2 : Value) (w : World) (h : d_code_Code_good R a0 a1 a2 w) : Tr P F.code_Code_good [a0, a1, a2] w R :=
  fn_ok (fn := Tryz.f22) (c := Tryz.f22.body.getD .skip) (fuel := 4000) mixed tab_ok Tryz.func22 (by kernel_rfl) (by kernel_rfl) (Nat.le_of_ble_eq_true (by kernel_rfl)) (Eq.mpr (e_code_Code_good R a0 a1 a2 w) h)
/-- lapidary/lapidaryref10.gone -/
def d_ref10_gone (R : Ending → World → Prop) (a0 : Value) (w : World) : Prop :=
  al a0.cells.toList 37 (fun t1 w =>
  lp 5 [(Value.int IntKind.i64 0), (Value.int IntKind.i64 0), (Value.int IntKind.i64 0), (Value.int IntKind.i64 0), (Value.int IntKind.i64 0)] (fun r1 x2 x3 x4 x5 x6 w =>
  fa 2 t1 (fun t10 w =>
  ld t10 (fun t11 w =>
  lnL t11 (fun t12 w =>
  bI .lss .i64 x6 t12 (fun t13 w =>
  cnd t13
  (fa 2 t1 (fun t17 w =>
  ld t17 (fun t18 w =>
  ia 3 t18 x6 (fun t20 w =>
  ldn 3 t20 (fun t21 w =>
  cl P F.ref10_takes [t21] (fun t22 w =>
  ex t22 0 (fun t23 w =>
  ex t22 1 (fun t24 w =>
  bI .lss .i64 x5 t23 (fun t27 w =>
  cnd t27
  (R (.returned (.tuple #[(Value.int IntKind.i64 (-1)), (Value.int IntKind.i64 0)])) w)
  (bI .add .i64 x5 t24 (fun t30 w =>
  bI .gtr .i64 t30 x4 (fun t33 w =>
  cnd t33
  (bI .add .i64 x6 (Value.int IntKind.i64 1) (fun t15 w =>
  sm [(t1, t1)] [] [] (r1 [x2, x3, t30, t30, t15] w)) w)
  (bI .add .i64 x6 (Value.int IntKind.i64 1) (fun t15 w =>
  sm [(t1, t1)] [] [] (r1 [x2, x3, x4, t30, t15] w)) w)) w) w)) w) w) w) (fun ch w => R (.panicked ch) w) w) w) w) w) w)
  (R (.returned (.tuple #[x4, x5])) w)) w) w) w) w) w) w
theorem e_ref10_gone (R : Ending → World → Prop) (a0 : Value) (w : World) : vcFn P tab 4000 Tryz.f23.ntmps (Tryz.f23.body.getD .skip) Tryz.f23.results.toList [a0] R w = d_ref10_gone R a0 w := by kernel_rfl
theorem t_ref10_gone (R : Ending → World → Prop) (a0 : Value) (w : World) (h : d_ref10_gone R a0 w) : Tr P F.ref10_gone [a0] w R :=
  fn_ok (fn := Tryz.f23) (c := Tryz.f23.body.getD .skip) (fuel := 4000) mixed tab_ok Tryz.func23 (by kernel_rfl) (by kernel_rfl) (Nat.le_of_ble_eq_true (by kernel_rfl)) (Eq.mpr (e_ref10_gone R a0 w) h)
/-- lapidary/lapidaryref10.right -/
def d_ref10_right (R : Ending → World → Prop) (a0 a1 a2 : Value) (w : World) : Prop :=
  al a0.cells.toList 32 (fun t3 w =>
  al a1.cells.toList 39 (fun t4 w =>
  jn 1 (fun x6 w =>
  fa 0 t4 (fun t15 w =>
  ld t15 (fun t16 w =>
  bI .eql .i64 t16 (Value.int IntKind.i64 0) (fun t18 w =>
  cnd t18
  (fa 1 t4 (fun t19 w =>
  ld t19 (fun t20 w =>
  fa 2 t3 (fun t21 w =>
  ld t21 (fun t22 w =>
  lnL t22 (fun t23 w =>
  cl P F.ref10_in [t20, t23] (fun t24 w =>
  R (.returned t24) w) (fun ch w => R (.panicked ch) w) w) w) w) w) w) w)
  (jn 1 (fun x25 w =>
  cnd x25
  (fa 1 t4 (fun t28 w =>
  ld t28 (fun t29 w =>
  cl P F.ref10_in [t29, a2] (fun t31 w =>
  R (.returned t31) w) (fun ch w => R (.panicked ch) w) w) w) w)
  (bI .eql .i64 t16 (Value.int IntKind.i64 5) (fun t33 w =>
  cnd t33
  (fa 1 t4 (fun t34 w =>
  ld t34 (fun t35 w =>
  fa 3 t3 (fun t36 w =>
  ld t36 (fun t37 w =>
  lnL t37 (fun t38 w =>
  cl P F.ref10_in [t35, t38] (fun t39 w =>
  R (.returned t39) w) (fun ch w => R (.panicked ch) w) w) w) w) w) w) w)
  (bI .eql .i64 t16 (Value.int IntKind.i64 7) (fun t41 w =>
  cnd t41
  (fa 1 t4 (fun t42 w =>
  ld t42 (fun t43 w =>
  cl P F.ref10_in [t43, (Value.int IntKind.i64 3)] (fun t44 w =>
  R (.returned t44) w) (fun ch w => R (.panicked ch) w) w) w) w)
  (jn 1 (fun x45 w =>
  cnd x45
  (drw w (fun w =>
  fa 1 t4 (fun t48 w =>
  ld t48 (fun t49 w =>
  fa 4 t3 (fun t50 w =>
  ld t50 (fun t51 w =>
  lnL t51 (fun t52 w =>
  cl P F.ref10_in [t49, t52] (fun t53 w =>
  cnd t53
  (fa 2 t4 (fun t55 w =>
  ld t55 (fun t56 w =>
  fa 4 t3 (fun t57 w =>
  ld t57 (fun t58 w =>
  fa 1 t4 (fun t59 w =>
  ld t59 (fun t60 w =>
  ia 1 t58 t60 (fun t61 w =>
  ld t61 (fun t62 w =>
  cl P F.ref08_Args [t62] (fun t63 w =>
  rk false t55 t56
  (bI .eql .i64 t56 t63 (fun t64 w =>
  R (.returned t64) w) w) w) (fun ch w => R (.panicked ch) w) w) w) w) w) w) w) w) w) w)
  (R (.returned (.bool false)) w)) (fun ch w => R (.panicked ch) w) w) w) w) w) w) w))
  (bI .eql .i64 t16 (Value.int IntKind.i64 10) (fun t67 w =>
  cnd t67
  (fa 1 t4 (fun t68 w =>
  ld t68 (fun t69 w =>
  fa 1 t3 (fun t70 w =>
  ld t70 (fun t71 w =>
  lnL t71 (fun t72 w =>
  cl P F.ref10_in [t69, t72] (fun t73 w =>
  R (.returned t73) w) (fun ch w => R (.panicked ch) w) w) w) w) w) w) w)
  (R (.returned (.bool true)) w)) w)) (fun k3 =>
  bI .eql .i64 t16 (Value.int IntKind.i64 8) (fun t46 w =>
  cnd t46
  (sm [(t3, t3), (t4, t4), (x6, x6), (t16, t16)] [] [] (k3 t46 w))
  (bI .eql .i64 t16 (Value.int IntKind.i64 9) (fun t47 w =>
  sm [(t3, t3), (t4, t4), (x6, x6), (t16, t16)] [] [] (k3 t47 w)) w)) w))) w)) w)) (fun k2 =>
  bI .eql .i64 t16 (Value.int IntKind.i64 3) (fun t26 w =>
  cnd t26
  (sm [(a2, a2), (t3, t3), (t4, t4), (x6, x6), (t16, t16)] [] [] (k2 t26 w))
  (bI .eql .i64 t16 (Value.int IntKind.i64 4) (fun t27 w =>
  sm [(a2, a2), (t3, t3), (t4, t4), (x6, x6), (t16, t16)] [] [] (k2 t27 w)) w)) w))) w) w) w) (fun k1 =>
  fa 1 t4 (fun t7 w =>
  ld t7 (fun t8 w =>
  bI .lss .i64 t8 (Value.int IntKind.i64 0) (fun t9 w =>
  cnd t9
  (R (.returned (.bool false)) w)
  (fa 2 t4 (fun t11 w =>
  ld t11 (fun t12 w =>
  bI .lss .i64 t12 (Value.int IntKind.i64 0) (fun t13 w =>
  cnd t13
  (R (.returned (.bool false)) w)
  (sm [(a2, a2), (t3, t3), (t4, t4)] [] [] (k1 (.bool false) w))) w) w) w)) w) w) w)) w) w
theorem e_ref10_right (R : Ending → World → Prop) (a0 a1 a2 : Value) (w : World) : vcFn P tab 4000 Tryz.f24.ntmps (Tryz.f24.body.getD .skip) Tryz.f24.results.toList [a0, a1, a2] R w = d_ref10_right R a0 a1 a2 w := by kernel_rfl
theorem t_ref10_right (R : Ending → World → Prop) (a0 a1 a2 : Value) (w : World) (h : d_ref10_right R a0 a1 a2 w) : Tr P F.ref10_right [a0, a1, a2] w R :=
  fn_ok (fn := Tryz.f24) (c := Tryz.f24.body.getD .skip) (fuel := 4000) mixed tab_ok Tryz.func24 (by kernel_rfl) (by kernel_rfl) (Nat.le_of_ble_eq_true (by kernel_rfl)) (Eq.mpr (e_ref10_right R a0 a1 a2 w) h)
/-- lapidary/tree.unit -/
def d_tree_unit (R : Ending → World → Prop) (a0 a1 : Value) (w : World) : Prop :=
  al [.int .i64 0, .string ⟨#[]⟩, .int .i64 0, .int .i64 0, .slice none 0 0, .slice none 0 0] 50 (fun t4 w =>
  al [.int .i64 0] 3 (fun t5 w =>
  al [.int .i64 0] 26 (fun t6 w =>
  cl P F.lex_Read [a0] (fun t11 w =>
  ex t11 0 (fun t12 w =>
  ex t11 1 (fun t13 w =>
  ex t11 2 (fun t14 w =>
  st 1 t5 t13 (fun w =>
  st 1 t6 t14 (fun w =>
  ld t6 (fun t15 w =>
  bI .neq .i64 t15 (Value.int IntKind.i64 0) (fun t16 w =>
  cnd t16
  (drw w (fun w =>
  bd [.int .i64 0, .string ⟨#[]⟩, .int .i64 0, .int .i64 0, .slice none 0 0, .slice none 0 0] [] (fun t17 w =>
  ld t5 (fun t18 w =>
  ld t6 (fun t19 w =>
  st 6 t4 t17 (fun w =>
  rk false t6 t19
  (rk false t5 t18
  (st 1 t5 t18 (fun w =>
  rk false t6 t19
  (st 1 t6 t19 (fun w =>
  ldn 6 t4 (fun r0 w =>
  ld t5 (fun r1 w =>
  ld t6 (fun r2 w =>
  R (.returned (.tuple #[r0, r1, r2])) w) w) w) w) w) w) w) w) w) w) w) w) w))
  (df (.func (.func F.tree_unit_1) #[] #[t4, t5, t6]) [] (fun d w =>
  bd [.slice none 0 0, .int .i64 0] [(0, 1, t12)] (fun t22 w =>
  al t22.cells.toList 101 (fun t23 w =>
  bd [.int .i64 0, .string ⟨#[]⟩, .int .i64 0, .int .i64 0, .slice none 0 0, .slice none 0 0] [(0, 1, (Value.int IntKind.i64 12))] (fun t24 w =>
  st 6 t4 t24 (fun w =>
  clv P a1 [t23, t4] (fun t27 w =>
  cl P F.tree_parser_body [t23, t4, (Value.int IntKind.i64 0)] (fun t29 w =>
  ldn 6 t4 (fun t30 w =>
  st 6 t4 t30 (fun w =>
  st 1 t5 (Value.int IntKind.i64 0) (fun w =>
  st 1 t6 (Value.int IntKind.i64 0) (fun w =>
  dl P d .returning (fun w =>
  ldn 6 t4 (fun r0 w =>
  ld t5 (fun r1 w =>
  ld t6 (fun r2 w =>
  R (.returned (.tuple #[r0, r1, r2])) w) w) w) w) (fun ch w => R (.panicked ch) w) w) w) w) w) w) (fun ch w => dl P d (.panicking ch) (fun w =>
  ldn 6 t4 (fun r0 w =>
  ld t5 (fun r1 w =>
  ld t6 (fun r2 w =>
  R (.returned (.tuple #[r0, r1, r2])) w) w) w) w) (fun ch w => R (.panicked ch) w) w) w) (fun ch w => dl P d (.panicking ch) (fun w =>
  ldn 6 t4 (fun r0 w =>
  ld t5 (fun r1 w =>
  ld t6 (fun r2 w =>
  R (.returned (.tuple #[r0, r1, r2])) w) w) w) w) (fun ch w => R (.panicked ch) w) w) w) w) w) w) w) w)) w) w) w) w) w) w) w) (fun ch w => R (.panicked ch) w) w) w) w) w
theorem e_tree_unit (R : Ending → World → Prop) (a0 a1 : Value) (w : World) : vcFnD P tab 4000 Tryz.f25.ntmps (Tryz.f25.body.getD .skip) Tryz.f25.results.toList [a0, a1] R w = d_tree_unit R a0 a1 w := by kernel_rfl
theorem t_tree_unit (R : Ending → World → Prop) (a0 a1 : Value) (w : World) (h : d_tree_unit R a0 a1 w) : Tr P F.tree_unit [a0, a1] w R :=
  fnD_ok (fn := Tryz.f25) (c := Tryz.f25.body.getD .skip) (fuel := 4000) mixed tab_ok Tryz.func25 (by kernel_rfl) (by kernel_rfl) (Nat.le_of_ble_eq_true (by kernel_rfl)) (Eq.mpr (e_tree_unit R a0 a1 w) h)
/-- lapidary/tree.Parse$1 -/
def d_tree_Parse_1 (R : Ending → World → Prop) (a0 a1 : Value) (w : World) : Prop :=
  R (.returned (.tuple #[])) w
theorem e_tree_Parse_1 (R : Ending → World → Prop) (a0 a1 : Value) (w : World) : vcFn P tab 4000 Tryz.f26.ntmps (Tryz.f26.body.getD .skip) Tryz.f26.results.toList [a0, a1] R w = d_tree_Parse_1 R a0 a1 w := by kernel_rfl
theorem t_tree_Parse_1 (R : Ending → World → Prop) (a0 a1 : Value) (w : World) (h : d_tree_Parse_1 R a0 a1 w) : Tr P F.tree_Parse_1 [a0, a1] w R :=
  fn_ok (fn := Tryz.f26) (c := Tryz.f26.body.getD .skip) (fuel := 4000) mixed tab_ok Tryz.func26 (by kernel_rfl) (by kernel_rfl) (Nat.le_of_ble_eq_true (by kernel_rfl)) (Eq.mpr (e_tree_Parse_1 R a0 a1 w) h)
/-- lapidary/scope.Resolve -/
def d_scope_Resolve (R : Ending → World → Prop) (a0 a1 : Value) (w : World) : Prop :=
  al a0.cells.toList 50 (fun t2 w =>
  al [.slice none 0 0] 73 (fun t4 w =>
  al [.int .i64 0] 3 (fun t5 w =>
  al [.int .i64 0] 26 (fun t6 w =>
  df (.func (.func F.scope_Resolve_1) #[] #[t4, t5, t6]) [] (fun d w =>
  bd [.slice none 0 0, .slice none 0 0] [(0, 1, a1)] (fun t10 w =>
  al t10.cells.toList 107 (fun t11 w =>
  ldn 6 t2 (fun t13 w =>
  cl P F.scope_walk_unit [t11, t13, (Value.pointer none)] (fun t14 w =>
  nc t11 (fun t16 w =>
  fa 1 t16 (fun t17 w =>
  ld t17 (fun t18 w =>
  st 1 t4 t18 (fun w =>
  st 1 t5 (Value.int IntKind.i64 0) (fun w =>
  st 1 t6 (Value.int IntKind.i64 0) (fun w =>
  dl P d .returning (fun w =>
  ld t4 (fun r0 w =>
  ld t5 (fun r1 w =>
  ld t6 (fun r2 w =>
  R (.returned (.tuple #[r0, r1, r2])) w) w) w) w) (fun ch w => R (.panicked ch) w) w) w) w) w) w) w) w) (fun ch w => dl P d (.panicking ch) (fun w =>
  ld t4 (fun r0 w =>
  ld t5 (fun r1 w =>
  ld t6 (fun r2 w =>
  R (.returned (.tuple #[r0, r1, r2])) w) w) w) w) (fun ch w => R (.panicked ch) w) w) w) w) w) w) w) w) w) w) w
theorem e_scope_Resolve (R : Ending → World → Prop) (a0 a1 : Value) (w : World) : vcFnD P tab 4000 Tryz.f27.ntmps (Tryz.f27.body.getD .skip) Tryz.f27.results.toList [a0, a1] R w = d_scope_Resolve R a0 a1 w := by kernel_rfl
theorem t_scope_Resolve (R : Ending → World → Prop) (a0 a1 : Value) (w : World) (h : d_scope_Resolve R a0 a1 w) : Tr P F.scope_Resolve [a0, a1] w R :=
  fnD_ok (fn := Tryz.f27) (c := Tryz.f27.body.getD .skip) (fuel := 4000) mixed tab_ok Tryz.func27 (by kernel_rfl) (by kernel_rfl) (Nat.le_of_ble_eq_true (by kernel_rfl)) (Eq.mpr (e_scope_Resolve R a0 a1 w) h)
/-- (*lapidary/code.maker).unit -/
def d_code_maker_unit (R : Ending → World → Prop) (a0 a1 : Value) (w : World) : Prop :=
  al a1.cells.toList 50 (fun t3 w =>
  nc a0 (fun t9 w =>
  fa 0 t9 (fun t10 w =>
  fa 1 t10 (fun t11 w =>
  ld t11 (fun t12 w =>
  lnL t12 (fun t13 w =>
  drw w (fun w =>
  nc a0 (fun t16 w =>
  fa 0 t16 (fun t17 w =>
  fa 1 t17 (fun t18 w =>
  ld t18 (fun t19 w =>
  fa 3 t3 (fun t20 w =>
  ld t20 (fun t21 w =>
  fa 4 t3 (fun t22 w =>
  ld t22 (fun t23 w =>
  lnL t23 (fun t24 w =>
  bd [.int .i64 0, .int .i64 0, .slice none 0 0] [(0, 1, t21), (1, 1, t24)] (fun t25 w =>
  bs 56 [.int .i64 0, .int .i64 0, .slice none 0 0] 1 [(0, 3, t25)] (fun t26 w =>
  rk false t18 t19
  (ap 56 3 40 [.int .i64 0, .int .i64 0, .slice none 0 0] t19 t26 (fun t27 w =>
  nc a0 (fun t28 w =>
  fa 0 t28 (fun t29 w =>
  fa 1 t29 (fun t30 w =>
  st 1 t30 t27 (fun w =>
  fa 5 t3 (fun t31 w =>
  ld t31 (fun t32 w =>
  lnL t32 (fun t33 w =>
  lp 1 [(Value.int IntKind.i64 0)] (fun r1 x34 w =>
  bI .lss .i64 x34 t33 (fun t35 w =>
  cnd t35
  (ia 6 t32 x34 (fun t37 w =>
  ldn 6 t37 (fun t38 w =>
  al [.int .i64 0, .string ⟨#[]⟩, .int .i64 0, .int .i64 0, .slice none 0 0, .slice none 0 0] 50 (fun t6 w =>
  st 6 t6 t38 (fun w =>
  jn 0 (fun w =>
  fa 0 t6 (fun t44 w =>
  ld t44 (fun t45 w =>
  bI .eql .i64 t45 (Value.int IntKind.i64 11) (fun t46 w =>
  cnd t46
  (fa 5 t6 (fun t49 w =>
  ld t49 (fun t50 w =>
  ia 6 t50 (Value.int IntKind.i64 0) (fun t51 w =>
  ldn 6 t51 (fun t52 w =>
  cl P F.code_maker_part [a0, t13, t52] (fun t53 w =>
  cl P F.code_maker_add [a0, t13, (Value.int IntKind.i64 14), (Value.int IntKind.i64 0), (Value.int IntKind.i64 0)] (fun t56 w =>
  R (.returned (.tuple #[])) w) (fun ch w => R (.panicked ch) w) w) (fun ch w => R (.panicked ch) w) w) w) w) w) w)
  (ldn 6 t6 (fun t59 w =>
  cl P F.code_maker_part [a0, t13, t59] (fun t60 w =>
  bI .add .i64 x34 (Value.int IntKind.i64 1) (fun t61 w =>
  sm [(a0, a0), (t3, t3), (t13, t13), (t32, t32), (t33, t33)] [] [] (r1 [t61] w)) w) (fun ch w => R (.panicked ch) w) w) w)) w) w) w) (fun k2 =>
  bI .gtr .i64 x34 (Value.int IntKind.i64 0) (fun t40 w =>
  cnd t40
  (cl P F.code_maker_add [a0, t13, (Value.int IntKind.i64 12), (Value.int IntKind.i64 0), (Value.int IntKind.i64 0)] (fun t43 w =>
  sm [(a0, a0), (t3, t3), (t13, t13), (t6, t6), (t32, t32), (t33, t33), (x34, x34)] [] [] (k2 w)) (fun ch w => R (.panicked ch) w) w)
  (sm [(a0, a0), (t3, t3), (t13, t13), (t6, t6), (t32, t32), (t33, t33), (x34, x34)] [] [] (k2 w))) w)) w) w) w) w)
  (jn 1 (fun x7 w =>
  jn 0 (fun w =>
  cl P F.code_maker_add [a0, t13, (Value.int IntKind.i64 6), (Value.int IntKind.i64 0), (Value.int IntKind.i64 0)] (fun t90 w =>
  cl P F.code_maker_add [a0, t13, (Value.int IntKind.i64 14), (Value.int IntKind.i64 0), (Value.int IntKind.i64 0)] (fun t93 w =>
  R (.returned (.tuple #[])) w) (fun ch w => R (.panicked ch) w) w) (fun ch w => R (.panicked ch) w) w) (fun k4 =>
  jn 0 (fun w =>
  cnd x7
  (sm [(a0, a0), (t13, t13)] [] [] (k4 w))
  (fa 5 t3 (fun t81 w =>
  ld t81 (fun t82 w =>
  lnL t82 (fun t83 w =>
  bI .eql .i64 t83 (Value.int IntKind.i64 0) (fun t84 w =>
  cnd t84
  (cl P F.code_maker_add [a0, t13, (Value.int IntKind.i64 7), (Value.int IntKind.i64 0), (Value.int IntKind.i64 0)] (fun t96 w =>
  cl P F.code_maker_add [a0, t13, (Value.int IntKind.i64 13), (Value.int IntKind.i64 0), (Value.int IntKind.i64 0)] (fun t99 w =>
  R (.returned (.tuple #[])) w) (fun ch w => R (.panicked ch) w) w) (fun ch w => R (.panicked ch) w) w)
  (cl P F.code_maker_add [a0, t13, (Value.int IntKind.i64 13), (Value.int IntKind.i64 0), (Value.int IntKind.i64 0)] (fun t99 w =>
  R (.returned (.tuple #[])) w) (fun ch w => R (.panicked ch) w) w)) w) w) w) w)) (fun k5 =>
  cnd x7
  (fa 5 t3 (fun t73 w =>
  ld t73 (fun t74 w =>
  lnL t74 (fun t75 w =>
  bI .gtr .i64 t75 (Value.int IntKind.i64 0) (fun t76 w =>
  cnd t76
  (cl P F.code_maker_add [a0, t13, (Value.int IntKind.i64 12), (Value.int IntKind.i64 0), (Value.int IntKind.i64 0)] (fun t87 w =>
  sm [(a0, a0), (t13, t13)] [] [] (k4 w)) (fun ch w => R (.panicked ch) w) w)
  (sm [(a0, a0), (t3, t3), (t13, t13), (x7, x7)] [] [] (k5 w))) w) w) w) w)
  (sm [(a0, a0), (t3, t3), (t13, t13), (x7, x7)] [] [] (k5 w))))) (fun k3 =>
  fa 0 t3 (fun t62 w =>
  ld t62 (fun t63 w =>
  bI .eql .i64 t63 (Value.int IntKind.i64 12) (fun t64 w =>
  cnd t64
  (fa 1 t3 (fun t66 w =>
  ld t66 (fun t67 w =>
  bS .neq t67 (Value.string { data := #[] }) (fun t68 w =>
  sm [(a0, a0), (t3, t3), (t13, t13)] [] [] (k3 t68 w)) w) w) w)
  (sm [(a0, a0), (t3, t3), (t13, t13)] [] [] (k3 (.bool false) w))) w) w) w))) w) w) w) w) w) w) w) w) w) w) w) w) w) w) w) w) w) w) w) w) w) w)) w) w) w) w) w) w
theorem e_code_maker_unit (R : Ending → World → Prop) (a0 a1 : Value) (w : World) : vcFn P tab 4000 Tryz.f28.ntmps (Tryz.f28.body.getD .skip) Tryz.f28.results.toList [a0, a1] R w = d_code_maker_unit R a0 a1 w := by kernel_rfl
theorem t_code_maker_unit (R : Ending → World → Prop) (a0 a1 : Value) (w : World) (h : d_code_maker_unit R a0 a1 w) : Tr P F.code_maker_unit [a0, a1] w R :=
  fn_ok (fn := Tryz.f28) (c := Tryz.f28.body.getD .skip) (fuel := 4000) mixed tab_ok Tryz.func28 (by kernel_rfl) (by kernel_rfl) (Nat.le_of_ble_eq_true (by kernel_rfl)) (Eq.mpr (e_code_maker_unit R a0 a1 w) h)
/-- (*lapidary/tree.parser).pattern -/
def d_tree_parser_pattern (R : Ending → World → Prop) (a0 a1 : Value) (w : World) : Prop :=
  al a0.cells.toList 70 (fun t2 w =>
  al a1.cells.toList 71 (fun t3 w =>
  jn 0 (fun w =>
  drw w (fun w =>
  ld t3 (fun t55 w =>
  ld t3 (fun t56 w =>
  nc t56 (fun t57 w =>
  fa 4 t57 (fun t58 w =>
  ld t58 (fun t59 w =>
  lnL t59 (fun t60 w =>
  nc t55 (fun t61 w =>
  fa 3 t61 (fun t62 w =>
  st 1 t62 t60 (fun w =>
  R (.returned (.tuple #[])) w) w) w) w) w) w) w) w) w) w)) (fun k1 =>
  ld t2 (fun t7 w =>
  cl P F.tree_parser_take [t7] (fun t8 w =>
  al [.int .i64 0, .string ⟨#[]⟩, .int .i64 0] 112 (fun t5 w =>
  st 3 t5 t8 (fun w =>
  fa 0 t5 (fun t9 w =>
  ld t9 (fun t10 w =>
  bI .eql .i64 t10 (Value.int IntKind.i64 1) (fun t16 w =>
  cnd t16
  (ld t3 (fun t17 w =>
  fa 1 t5 (fun t18 w =>
  ld t18 (fun t19 w =>
  nc t17 (fun t20 w =>
  fa 1 t20 (fun t21 w =>
  st 1 t21 t19 (fun w =>
  sm [(t3, t3)] [] [] (k1 w)) w) w) w) w) w) w)
  (bI .eql .i64 t10 (Value.int IntKind.i64 3) (fun t23 w =>
  cnd t23
  (ld t3 (fun t24 w =>
  fa 1 t5 (fun t25 w =>
  ld t25 (fun t26 w =>
  nc t24 (fun t27 w =>
  fa 1 t27 (fun t28 w =>
  st 1 t28 t26 (fun w =>
  clv P (.func (.func F.tree_parser_pattern_1) #[] #[t3, t2]) [] (fun t30 w =>
  sm [(t3, t3)] [] [] (k1 w)) (fun ch w => R (.panicked ch) w) w) w) w) w) w) w) w)
  (bI .eql .i64 t10 (Value.int IntKind.i64 2) (fun t32 w =>
  cnd t32
  (ld t3 (fun t33 w =>
  fa 1 t5 (fun t34 w =>
  ld t34 (fun t35 w =>
  nc t33 (fun t36 w =>
  fa 1 t36 (fun t37 w =>
  st 1 t37 t35 (fun w =>
  clv P (.func (.func F.tree_parser_pattern_1) #[] #[t3, t2]) [] (fun t39 w =>
  lp 0 [] (fun r2 w =>
  ld t2 (fun t40 w =>
  cl P F.tree_parser_kind [t40] (fun t41 w =>
  bI .eql .i64 t41 (Value.int IntKind.i64 2) (fun t42 w =>
  cnd t42
  (drw w (fun w =>
  ld t3 (fun t43 w =>
  nc t43 (fun t44 w =>
  fa 1 t44 (fun t45 w =>
  ld t45 (fun t46 w =>
  ld t2 (fun t47 w =>
  cl P F.tree_parser_take [t47] (fun t48 w =>
  rk false t45 t46
  (rk false t3 t43
  (fl false 1 1 t48 (fun t49 w =>
  bS .add t46 t49 (fun t50 w =>
  nc t43 (fun t51 w =>
  fa 1 t51 (fun t52 w =>
  st 1 t52 t50 (fun w =>
  clv P (.func (.func F.tree_parser_pattern_1) #[] #[t3, t2]) [] (fun t54 w =>
  sm [(t2, t2), (t3, t3), ((.func (.func F.tree_parser_pattern_1) #[] #[t3, t2]), (.func (.func F.tree_parser_pattern_1) #[] #[t3, t2]))] [] [] (r2 [] w)) (fun ch w => R (.panicked ch) w) w) w) w) w) w) w) w) w) (fun ch w => R (.panicked ch) w) w) w) w) w) w) w))
  (sm [(t3, t3)] [] [] (k1 w))) w) (fun ch w => R (.panicked ch) w) w) w) w) (fun ch w => R (.panicked ch) w) w) w) w) w) w) w) w)
  (fa 2 t5 (fun t11 w =>
  ld t11 (fun t12 w =>
  bd [.int .i64 0, .int .i64 0] [(0, 1, t12), (1, 1, (Value.int IntKind.i64 20))] (fun t13 w =>
  pn (.iface 99 t13) (fun ch w => R (.panicked ch) w) w) w) w) w)) w)) w)) w) w) w) w) w) (fun ch w => R (.panicked ch) w) w) w)) w) w
theorem e_tree_parser_pattern (R : Ending → World → Prop) (a0 a1 : Value) (w : World) : vcFn P tab 4000 Tryz.f29.ntmps (Tryz.f29.body.getD .skip) Tryz.f29.results.toList [a0, a1] R w = d_tree_parser_pattern R a0 a1 w := by kernel_rfl
theorem t_tree_parser_pattern (R : Ending → World → Prop) (a0 a1 : Value) (w : World) (h : d_tree_parser_pattern R a0 a1 w) : Tr P F.tree_parser_pattern [a0, a1] w R :=
  fn_ok (fn := Tryz.f29) (c := Tryz.f29.body.getD .skip) (fuel := 4000) mixed tab_ok Tryz.func29 (by kernel_rfl) (by kernel_rfl) (Nat.le_of_ble_eq_true (by kernel_rfl)) (Eq.mpr (e_tree_parser_pattern R a0 a1 w) h)
/-- (lapidary/code.Unit).run -/
def d_code_Unit_run (R : Ending → World → Prop) (a0 : Value) (w : World) : Prop :=
  al a0.cells.toList 56 (fun t1 w =>
  fa 2 t1 (fun t12 w =>
  ld t12 (fun t13 w =>
  lnL t13 (fun t14 w =>
  lp 6 [(Value.int IntKind.i64 0), (Value.int IntKind.i64 0), (.bool false), (Value.int IntKind.i64 0), (Value.int IntKind.i64 0), (Value.int IntKind.i64 0)] (fun r1 x2 x3 x4 x5 x6 x15 w =>
  bI .lss .i64 x15 t14 (fun t16 w =>
  cnd t16
  (ia 3 t13 x15 (fun t17 w =>
  ldn 3 t17 (fun t18 w =>
  al [.int .i64 0, .int .i64 0, .int .i64 0] 57 (fun t8 w =>
  st 3 t8 t18 (fun w =>
  ldn 3 t8 (fun t20 w =>
  cl P F.code_Ins_effect [t20] (fun t21 w =>
  ex t21 0 (fun t22 w =>
  ex t21 1 (fun t23 w =>
  ex t21 2 (fun t24 w =>
  jn 7 (fun x11 x29 x30 x31 x35 x36 x37 w =>
  jn 6 (fun x2 x3 x4 x42 x43 x44 w =>
  bI .sub .i64 t23 t22 (fun t49 w =>
  bI .add .i64 x6 t49 (fun t50 w =>
  mxI x5 t50 (fun t53 w =>
  bI .add .i64 x15 (Value.int IntKind.i64 1) (fun t54 w =>
  sm [(t13, t13), (t14, t14)] [] [] (r1 [x2, x3, x4, t53, t50, t54] w)) w) w) w) w) (fun k3 =>
  uN x11 (fun t40 w =>
  cnd t40
  (R (.returned (.tuple #[(Value.int IntKind.i64 (-1)), (Value.int IntKind.i64 0), (.bool false)])) w)
  (bI .lss .i64 x6 t22 (fun t44 w =>
  cnd t44
  (R (.returned (.tuple #[(Value.int IntKind.i64 (-1)), (Value.int IntKind.i64 0), (.bool false)])) w)
  (sm [(x5, x5), (x6, x6), (t22, t22), (t23, t23), (t13, t13), (t14, t14), (x15, x15), (x29, x29), (x30, x30), (x31, x31), (x35, x35), (x36, x36), (x37, x37)] [] [] (k3 x2 x3 x4 x6 t22 t44 w))) w)) w)) (fun k2 =>
  jn 4 (fun x29 x30 x31 x32 w =>
  cnd x32
  (cnd t24
  (bI .gtr .i64 x6 t22 (fun t37 w =>
  sm [(x2, x2), (x3, x3), (x4, x4), (x5, x5), (x6, x6), (t22, t22), (t23, t23), (t13, t13), (t14, t14), (x15, x15)] [] [] (k2 t37 x29 x30 x31 x6 t22 t37 w)) w)
  (sm [(x2, x2), (x3, x3), (x4, x4), (x5, x5), (x6, x6), (t22, t22), (t23, t23), (t13, t13), (t14, t14), (x15, x15)] [] [] (k2 (.bool false) x29 x30 x31 undef undef undef w)))
  (sm [(x2, x2), (x3, x3), (x4, x4), (x5, x5), (x6, x6), (t22, t22), (t23, t23), (t13, t13), (t14, t14), (x15, x15)] [] [] (∀ v35, ∀ v36, ∀ v37, k2 t24 x29 x30 x31 v35 v36 v37 w))) (fun k4 =>
  fa 0 t8 (fun t25 w =>
  ld t25 (fun t26 w =>
  bI .eql .i64 t26 (Value.int IntKind.i64 8) (fun t27 w =>
  cnd t27
  (sm [(x2, x2), (x3, x3), (x4, x4), (x5, x5), (x6, x6), (t22, t22), (t23, t23), (t24, t24), (t13, t13), (t14, t14), (x15, x15)] [] [] (k4 undef undef undef (.bool true) w))
  (fa 0 t8 (fun t29 w =>
  ld t29 (fun t30 w =>
  bI .eql .i64 t30 (Value.int IntKind.i64 9) (fun t31 w =>
  sm [(x2, x2), (x3, x3), (x4, x4), (x5, x5), (x6, x6), (t22, t22), (t23, t23), (t24, t24), (t13, t13), (t14, t14), (x15, x15)] [] [] (k4 t29 t30 t31 t31 w)) w) w) w)) w) w) w))) w) w) w) (fun ch w => R (.panicked ch) w) w) w) w) w) w) w)
  (R (.returned (.tuple #[x5, x6, (.bool true)])) w)) w) w) w) w) w) w
theorem e_code_Unit_run (R : Ending → World → Prop) (a0 : Value) (w : World) : vcFn P tab 4000 Tryz.f33.ntmps (Tryz.f33.body.getD .skip) Tryz.f33.results.toList [a0] R w = d_code_Unit_run R a0 w := by kernel_rfl
theorem t_code_Unit_run (R : Ending → World → Prop) (a0 : Value) (w : World) (h : d_code_Unit_run R a0 w) : Tr P F.code_Unit_run [a0] w R :=
  fn_ok (fn := Tryz.f33) (c := Tryz.f33.body.getD .skip) (fuel := 4000) mixed tab_ok Tryz.func33 (by kernel_rfl) (by kernel_rfl) (Nat.le_of_ble_eq_true (by kernel_rfl)) (Eq.mpr (e_code_Unit_run R a0 w) h)
/-- (lapidary/code.Code).names -/
def d_code_Code_names (R : Ending → World → Prop) (a0 a1 a2 : Value) (w : World) : Prop :=
  al a0.cells.toList 25 (fun t3 w =>
  al a1.cells.toList 57 (fun t4 w =>
  jn 1 (fun x6 w =>
  fa 0 t4 (fun t15 w =>
  ld t15 (fun t16 w =>
  bI .eql .i64 t16 (Value.int IntKind.i64 0) (fun t18 w =>
  cnd t18
  (fa 1 t4 (fun t19 w =>
  ld t19 (fun t20 w =>
  fa 2 t3 (fun t21 w =>
  ld t21 (fun t22 w =>
  lnL t22 (fun t23 w =>
  bI .lss .i64 t20 t23 (fun t24 w =>
  R (.returned t24) w) w) w) w) w) w) w)
  (jn 1 (fun x25 w =>
  cnd x25
  (fa 1 t4 (fun t28 w =>
  ld t28 (fun t29 w =>
  bI .lss .i64 t29 a2 (fun t31 w =>
  R (.returned t31) w) w) w) w)
  (bI .eql .i64 t16 (Value.int IntKind.i64 5) (fun t33 w =>
  cnd t33
  (fa 1 t4 (fun t34 w =>
  ld t34 (fun t35 w =>
  fa 3 t3 (fun t36 w =>
  ld t36 (fun t37 w =>
  lnL t37 (fun t38 w =>
  bI .lss .i64 t35 t38 (fun t39 w =>
  R (.returned t39) w) w) w) w) w) w) w)
  (bI .eql .i64 t16 (Value.int IntKind.i64 7) (fun t41 w =>
  cnd t41
  (fa 1 t4 (fun t42 w =>
  ld t42 (fun t43 w =>
  bI .lss .i64 t43 (Value.int IntKind.i64 3) (fun t44 w =>
  R (.returned t44) w) w) w) w)
  (jn 1 (fun x45 w =>
  cnd x45
  (drw w (fun w =>
  fa 1 t4 (fun t48 w =>
  ld t48 (fun t49 w =>
  fa 4 t3 (fun t50 w =>
  ld t50 (fun t51 w =>
  lnL t51 (fun t52 w =>
  bI .lss .i64 t49 t52 (fun t53 w =>
  cnd t53
  (fa 2 t4 (fun t55 w =>
  ld t55 (fun t56 w =>
  fa 4 t3 (fun t57 w =>
  ld t57 (fun t58 w =>
  fa 1 t4 (fun t59 w =>
  ld t59 (fun t60 w =>
  ia 1 t58 t60 (fun t61 w =>
  ld t61 (fun t62 w =>
  cl P F.tree_Args [t62] (fun t63 w =>
  rk false t55 t56
  (bI .eql .i64 t56 t63 (fun t64 w =>
  R (.returned t64) w) w) w) (fun ch w => R (.panicked ch) w) w) w) w) w) w) w) w) w) w)
  (R (.returned (.bool false)) w)) w) w) w) w) w) w))
  (bI .eql .i64 t16 (Value.int IntKind.i64 10) (fun t67 w =>
  cnd t67
  (fa 1 t4 (fun t68 w =>
  ld t68 (fun t69 w =>
  fa 1 t3 (fun t70 w =>
  ld t70 (fun t71 w =>
  lnL t71 (fun t72 w =>
  bI .lss .i64 t69 t72 (fun t73 w =>
  R (.returned t73) w) w) w) w) w) w) w)
  (R (.returned (.bool true)) w)) w)) (fun k3 =>
  bI .eql .i64 t16 (Value.int IntKind.i64 8) (fun t46 w =>
  cnd t46
  (sm [(t3, t3), (t4, t4), (x6, x6), (t16, t16)] [] [] (k3 t46 w))
  (bI .eql .i64 t16 (Value.int IntKind.i64 9) (fun t47 w =>
  sm [(t3, t3), (t4, t4), (x6, x6), (t16, t16)] [] [] (k3 t47 w)) w)) w))) w)) w)) (fun k2 =>
  bI .eql .i64 t16 (Value.int IntKind.i64 3) (fun t26 w =>
  cnd t26
  (sm [(a2, a2), (t3, t3), (t4, t4), (x6, x6), (t16, t16)] [] [] (k2 t26 w))
  (bI .eql .i64 t16 (Value.int IntKind.i64 4) (fun t27 w =>
  sm [(a2, a2), (t3, t3), (t4, t4), (x6, x6), (t16, t16)] [] [] (k2 t27 w)) w)) w))) w) w) w) (fun k1 =>
  fa 1 t4 (fun t7 w =>
  ld t7 (fun t8 w =>
  bI .lss .i64 t8 (Value.int IntKind.i64 0) (fun t9 w =>
  cnd t9
  (R (.returned (.bool false)) w)
  (fa 2 t4 (fun t11 w =>
  ld t11 (fun t12 w =>
  bI .lss .i64 t12 (Value.int IntKind.i64 0) (fun t13 w =>
  cnd t13
  (R (.returned (.bool false)) w)
  (sm [(a2, a2), (t3, t3), (t4, t4)] [] [] (k1 (.bool false) w))) w) w) w)) w) w) w)) w) w
theorem e_code_Code_names (R : Ending → World → Prop) (a0 a1 a2 : Value) (w : World) : vcFn P tab 4000 Tryz.f34.ntmps (Tryz.f34.body.getD .skip) Tryz.f34.results.toList [a0, a1, a2] R w = d_code_Code_names R a0 a1 a2 w := by kernel_rfl
theorem t_code_Code_names (R : Ending → World → Prop) (a0 a1 a2 : Value) (w : World) (h : d_code_Code_names R a0 a1 a2 w) : Tr P F.code_Code_names [a0, a1, a2] w R :=
  fn_ok (fn := Tryz.f34) (c := Tryz.f34.body.getD .skip) (fuel := 4000) mixed tab_ok Tryz.func34 (by kernel_rfl) (by kernel_rfl) (Nat.le_of_ble_eq_true (by kernel_rfl)) (Eq.mpr (e_code_Code_names R a0 a1 a2 w) h)
/-- lapidary/lapidaryref10.takes -/
def d_ref10_takes (R : Ending → World → Prop) (a0 : Value) (w : World) : Prop :=
  al a0.cells.toList 39 (fun t1 w =>
  fa 0 t1 (fun t4 w =>
  ld t4 (fun t5 w =>
  jn 1 (fun x6 w =>
  cnd x6
  (R (.returned (.tuple #[(Value.int IntKind.i64 0), (Value.int IntKind.i64 1)])) w)
  (jn 1 (fun x14 w =>
  cnd x14
  (R (.returned (.tuple #[(Value.int IntKind.i64 1), (Value.int IntKind.i64 0)])) w)
  (jn 1 (fun x17 w =>
  cnd x17
  (jn 2 (fun x2 x3 w =>
  drw w (fun w =>
  fa 2 t1 (fun t28 w =>
  ld t28 (fun t29 w =>
  bI .add .i64 t29 (Value.int IntKind.i64 1) (fun t30 w =>
  fa 2 t1 (fun t31 w =>
  ld t31 (fun t32 w =>
  uM t32 (fun t33 w =>
  R (.returned (.tuple #[t30, t33])) w) w) w) w) w) w) w)) (fun k4 =>
  fa 2 t1 (fun t20 w =>
  ld t20 (fun t21 w =>
  bI .lss .i64 t21 (Value.int IntKind.i64 0) (fun t22 w =>
  cnd t22
  (R (.returned (.tuple #[(Value.int IntKind.i64 1152921504606846976), (Value.int IntKind.i64 0)])) w)
  (fa 2 t1 (fun t24 w =>
  ld t24 (fun t25 w =>
  bI .gtr .i64 t25 (Value.int IntKind.i64 1099511627776) (fun t26 w =>
  cnd t26
  (R (.returned (.tuple #[(Value.int IntKind.i64 1152921504606846976), (Value.int IntKind.i64 0)])) w)
  (sm [(t1, t1)] [] [] (k4 (Value.int IntKind.i64 0) (Value.int IntKind.i64 0) w))) w) w) w)) w) w) w))
  (bI .eql .i64 t5 (Value.int IntKind.i64 11) (fun t35 w =>
  cnd t35
  (R (.returned (.tuple #[(Value.int IntKind.i64 1), (Value.int IntKind.i64 1)])) w)
  (bI .eql .i64 t5 (Value.int IntKind.i64 12) (fun t37 w =>
  cnd t37
  (cnd t37
  (R (.returned (.tuple #[(Value.int IntKind.i64 1), (Value.int IntKind.i64 (-1))])) w)
  (R (.returned (.tuple #[(Value.int IntKind.i64 1152921504606846976), (Value.int IntKind.i64 0)])) w))
  (bI .eql .i64 t5 (Value.int IntKind.i64 13) (fun t38 w =>
  cnd t38
  (cnd t38
  (R (.returned (.tuple #[(Value.int IntKind.i64 1), (Value.int IntKind.i64 (-1))])) w)
  (R (.returned (.tuple #[(Value.int IntKind.i64 1152921504606846976), (Value.int IntKind.i64 0)])) w))
  (bI .eql .i64 t5 (Value.int IntKind.i64 14) (fun t39 w =>
  cnd t39
  (R (.returned (.tuple #[(Value.int IntKind.i64 1), (Value.int IntKind.i64 (-1))])) w)
  (R (.returned (.tuple #[(Value.int IntKind.i64 1152921504606846976), (Value.int IntKind.i64 0)])) w)) w)) w)) w)) w)) (fun k3 =>
  bI .eql .i64 t5 (Value.int IntKind.i64 8) (fun t18 w =>
  cnd t18
  (sm [(t1, t1), ((Value.int IntKind.i64 0), (Value.int IntKind.i64 0)), ((Value.int IntKind.i64 0), (Value.int IntKind.i64 0)), (t5, t5)] [] [] (k3 t18 w))
  (bI .eql .i64 t5 (Value.int IntKind.i64 9) (fun t19 w =>
  sm [(t1, t1), ((Value.int IntKind.i64 0), (Value.int IntKind.i64 0)), ((Value.int IntKind.i64 0), (Value.int IntKind.i64 0)), (t5, t5)] [] [] (k3 t19 w)) w)) w))) (fun k2 =>
  bI .eql .i64 t5 (Value.int IntKind.i64 2) (fun t15 w =>
  cnd t15
  (sm [(t1, t1), ((Value.int IntKind.i64 0), (Value.int IntKind.i64 0)), ((Value.int IntKind.i64 0), (Value.int IntKind.i64 0)), (t5, t5)] [] [] (k2 t15 w))
  (bI .eql .i64 t5 (Value.int IntKind.i64 4) (fun t16 w =>
  sm [(t1, t1), ((Value.int IntKind.i64 0), (Value.int IntKind.i64 0)), ((Value.int IntKind.i64 0), (Value.int IntKind.i64 0)), (t5, t5)] [] [] (k2 t16 w)) w)) w))) (fun k1 =>
  bI .eql .i64 t5 (Value.int IntKind.i64 0) (fun t7 w =>
  cnd t7
  (sm [(t1, t1), ((Value.int IntKind.i64 0), (Value.int IntKind.i64 0)), ((Value.int IntKind.i64 0), (Value.int IntKind.i64 0)), (t5, t5)] [] [] (k1 t7 w))
  (bI .eql .i64 t5 (Value.int IntKind.i64 1) (fun t8 w =>
  cnd t8
  (sm [(t1, t1), ((Value.int IntKind.i64 0), (Value.int IntKind.i64 0)), ((Value.int IntKind.i64 0), (Value.int IntKind.i64 0)), (t5, t5)] [] [] (k1 t8 w))
  (bI .eql .i64 t5 (Value.int IntKind.i64 3) (fun t9 w =>
  cnd t9
  (sm [(t1, t1), ((Value.int IntKind.i64 0), (Value.int IntKind.i64 0)), ((Value.int IntKind.i64 0), (Value.int IntKind.i64 0)), (t5, t5)] [] [] (k1 t9 w))
  (bI .eql .i64 t5 (Value.int IntKind.i64 5) (fun t10 w =>
  cnd t10
  (sm [(t1, t1), ((Value.int IntKind.i64 0), (Value.int IntKind.i64 0)), ((Value.int IntKind.i64 0), (Value.int IntKind.i64 0)), (t5, t5)] [] [] (k1 t10 w))
  (bI .eql .i64 t5 (Value.int IntKind.i64 6) (fun t11 w =>
  cnd t11
  (sm [(t1, t1), ((Value.int IntKind.i64 0), (Value.int IntKind.i64 0)), ((Value.int IntKind.i64 0), (Value.int IntKind.i64 0)), (t5, t5)] [] [] (k1 t11 w))
  (bI .eql .i64 t5 (Value.int IntKind.i64 7) (fun t12 w =>
  cnd t12
  (sm [(t1, t1), ((Value.int IntKind.i64 0), (Value.int IntKind.i64 0)), ((Value.int IntKind.i64 0), (Value.int IntKind.i64 0)), (t5, t5)] [] [] (k1 t12 w))
  (bI .eql .i64 t5 (Value.int IntKind.i64 10) (fun t13 w =>
  sm [(t1, t1), ((Value.int IntKind.i64 0), (Value.int IntKind.i64 0)), ((Value.int IntKind.i64 0), (Value.int IntKind.i64 0)), (t5, t5)] [] [] (k1 t13 w)) w)) w)) w)) w)) w)) w)) w)) w) w) w
theorem e_ref10_takes (R : Ending → World → Prop) (a0 : Value) (w : World) : vcFn P tab 4000 Tryz.f35.ntmps (Tryz.f35.body.getD .skip) Tryz.f35.results.toList [a0] R w = d_ref10_takes R a0 w := by kernel_rfl
theorem t_ref10_takes (R : Ending → World → Prop) (a0 : Value) (w : World) (h : d_ref10_takes R a0 w) : Tr P F.ref10_takes [a0] w R :=
  fn_ok (fn := Tryz.f35) (c := Tryz.f35.body.getD .skip) (fuel := 4000) mixed tab_ok Tryz.func35 (by kernel_rfl) (by kernel_rfl) (Nat.le_of_ble_eq_true (by kernel_rfl)) (Eq.mpr (e_ref10_takes R a0 w) h)
/-- lapidary/lapidaryref10.in -/
def d_ref10_in (R : Ending → World → Prop) (a0 a1 : Value) (w : World) : Prop :=
  bI .geq .i64 a0 (Value.int IntKind.i64 0) (fun t6 w =>
  cnd t6
  (bI .lss .i64 a0 a1 (fun t10 w =>
  R (.returned t10) w) w)
  (R (.returned (.bool false)) w)) w
theorem e_ref10_in (R : Ending → World → Prop) (a0 a1 : Value) (w : World) : vcFn P tab 4000 Tryz.f36.ntmps (Tryz.f36.body.getD .skip) Tryz.f36.results.toList [a0, a1] R w = d_ref10_in R a0 a1 w := by kernel_rfl
theorem t_ref10_in (R : Ending → World → Prop) (a0 a1 : Value) (w : World) (h : d_ref10_in R a0 a1 w) : Tr P F.ref10_in [a0, a1] w R :=
  fn_ok (fn := Tryz.f36) (c := Tryz.f36.body.getD .skip) (fuel := 4000) mixed tab_ok Tryz.func36 (by kernel_rfl) (by kernel_rfl) (Nat.le_of_ble_eq_true (by kernel_rfl)) (Eq.mpr (e_ref10_in R a0 a1 w) h)
/-- lapidary/lapidaryref08.Args -/
def d_ref08_Args (R : Ending → World → Prop) (a0 : Value) (w : World) : Prop :=
  cl P F.ref07_PlainName [a0] (fun t6 w =>
  cnd t6
  (R (.returned (Value.int IntKind.i64 0)) w)
  (jn 1 (fun x14 w =>
  cnd x14
  (lp 2 [(Value.int IntKind.i64 0), (Value.int IntKind.i64 0)] (fun r2 x3 x4 w =>
  lnS a0 (fun t17 w =>
  bI .lss .i64 x4 t17 (fun t18 w =>
  cnd t18
  (ix a0 x4 (fun t23 w =>
  bI .eql .u8 t23 (Value.int IntKind.u8 58) (fun t24 w =>
  cnd t24
  (bI .add .i64 x3 (Value.int IntKind.i64 1) (fun t26 w =>
  bI .add .i64 x4 (Value.int IntKind.i64 1) (fun t20 w =>
  sm [(a0, a0), ((Value.int IntKind.i64 0), (Value.int IntKind.i64 0))] [] [] (r2 [t26, t20] w)) w) w)
  (bI .add .i64 x4 (Value.int IntKind.i64 1) (fun t20 w =>
  sm [(a0, a0), ((Value.int IntKind.i64 0), (Value.int IntKind.i64 0))] [] [] (r2 [x3, t20] w)) w)) w) w)
  (R (.returned x3) w)) w) w) w)
  (R (.returned (Value.int IntKind.i64 1)) w)) (fun k1 =>
  lnS a0 (fun t8 w =>
  bI .eql .i64 t8 (Value.int IntKind.i64 0) (fun t9 w =>
  cnd t9
  (sm [(a0, a0), ((Value.int IntKind.i64 0), (Value.int IntKind.i64 0))] [] [] (k1 (.bool true) w))
  (slS a0 none (some (Value.int IntKind.i64 1)) (fun t12 w =>
  cl P F.ref07_PlainName [t12] (fun t13 w =>
  sm [(a0, a0), ((Value.int IntKind.i64 0), (Value.int IntKind.i64 0))] [] [] (k1 t13 w)) (fun ch w => R (.panicked ch) w) w) w)) w) w))) (fun ch w => R (.panicked ch) w) w
theorem e_ref08_Args (R : Ending → World → Prop) (a0 : Value) (w : World) : vcFn P tab 4000 Tryz.f37.ntmps (Tryz.f37.body.getD .skip) Tryz.f37.results.toList [a0] R w = d_ref08_Args R a0 w := by kernel_rfl
theorem t_ref08_Args (R : Ending → World → Prop) (a0 : Value) (w : World) (h : d_ref08_Args R a0 w) : Tr P F.ref08_Args [a0] w R :=
  fn_ok (fn := Tryz.f37) (c := Tryz.f37.body.getD .skip) (fuel := 4000) mixed tab_ok Tryz.func37 (by kernel_rfl) (by kernel_rfl) (Nat.le_of_ble_eq_true (by kernel_rfl)) (Eq.mpr (e_ref08_Args R a0 w) h)
/-- lapidary/lex.Read -/
def d_lex_Read (R : Ending → World → Prop) (a0 : Value) (w : World) : Prop :=
  sc 6 (fun j1 =>
  lnS a0 (fun t12 w =>
  bI .gtr .i64 t12 (Value.int IntKind.i64 4096) (fun t13 w =>
  cnd t13
  (R (.returned (.tuple #[(Value.slice none 0 0), (Value.int IntKind.i64 0), (Value.int IntKind.i64 3)])) w)
  (bd [.string ⟨#[]⟩, .int .i64 0] [(0, 1, a0)] (fun t15 w =>
  al t15.cells.toList 132 (fun t16 w =>
  cl P F.lex_reader_skip [t16, (.func (.func F.lex_Read_1) #[] #[])] (fun t18 w =>
  nc t16 (fun t20 w =>
  fa 1 t20 (fun t21 w =>
  ld t21 (fun t22 w =>
  nc t16 (fun t25 w =>
  fa 1 t25 (fun t26 w =>
  ld t26 (fun t27 w =>
  lnS a0 (fun t29 w =>
  bI .eql .i64 t27 t29 (fun t30 w =>
  cnd t30
  (nc t16 (fun t33 w =>
  fa 1 t33 (fun t34 w =>
  ld t34 (fun t35 w =>
  bd [.int .i64 0, .string ⟨#[]⟩, .int .i64 0] [(2, 1, t35)] (fun t36 w =>
  bs 112 [.int .i64 0, .string ⟨#[]⟩, .int .i64 0] 1 [(0, 3, t36)] (fun t37 w =>
  ap 112 3 32 [.int .i64 0, .string ⟨#[]⟩, .int .i64 0] (Value.slice none 0 0) t37 (fun t38 w =>
  R (.returned (.tuple #[t38, (Value.int IntKind.i64 0), (Value.int IntKind.i64 0)])) w) w) w) w) w) w) w)
  (nc t16 (fun t42 w =>
  fa 1 t42 (fun t43 w =>
  ld t43 (fun t44 w =>
  ix a0 t44 (fun t45 w =>
  bI .eql .u8 t45 (Value.int IntKind.u8 34) (fun t46 w =>
  cnd t46
  (nc t16 (fun t49 w =>
  fa 1 t49 (fun t50 w =>
  ld t50 (fun t51 w =>
  bI .add .i64 t51 (Value.int IntKind.i64 1) (fun t52 w =>
  slS a0 (some t52) none (fun t53 w =>
  cl P F.strings_IndexByte [t53, (Value.int IntKind.u8 34)] (fun t54 w =>
  bI .lss .i64 t54 (Value.int IntKind.i64 0) (fun t56 w =>
  cnd t56
  (sm [(a0, a0)] [] [] (j1 1 [(Value.slice none 0 0), (Value.int IntKind.i64 0), (Value.int IntKind.i64 0), t16, (Value.slice none 0 0), t22] w))
  (nc t16 (fun t58 w =>
  fa 1 t58 (fun t59 w =>
  ld t59 (fun t60 w =>
  bI .add .i64 t54 (Value.int IntKind.i64 2) (fun t62 w =>
  bI .add .i64 t60 t62 (fun t63 w =>
  nc t16 (fun t64 w =>
  fa 1 t64 (fun t65 w =>
  st 1 t65 t63 (fun w =>
  sm [(a0, a0)] [] [] (j1 0 [(Value.slice none 0 0), (Value.int IntKind.i64 0), (Value.int IntKind.i64 0), t16, (Value.slice none 0 0), t22] w)) w) w) w) w) w) w) w) w)) w) (fun ch w => R (.panicked ch) w) w) w) w) w) w) w)
  (cl P F.lex_reader_word [t16] (fun t68 w =>
  ex t68 0 (fun t69 w =>
  ex t68 1 (fun t70 w =>
  al [.int .i64 0, .string ⟨#[]⟩, .int .i64 0] 112 (fun t9 w =>
  st 3 t9 t69 (fun w =>
  cnd t70
  (ldn 3 t9 (fun t73 w =>
  bs 112 [.int .i64 0, .string ⟨#[]⟩, .int .i64 0] 1 [(0, 3, t73)] (fun t74 w =>
  ap 112 3 32 [.int .i64 0, .string ⟨#[]⟩, .int .i64 0] (Value.slice none 0 0) t74 (fun t75 w =>
  sm [(a0, a0)] [] [] (j1 0 [(Value.slice none 0 0), (Value.int IntKind.i64 0), (Value.int IntKind.i64 0), t16, t75, t22] w)) w) w) w)
  (R (.returned (.tuple #[(Value.slice none 0 0), t22, (Value.int IntKind.i64 20)])) w)) w) w) w) w) (fun ch w => R (.panicked ch) w) w)) w) w) w) w) w)) w) w) w) w) w) w) w) w) (fun ch w => R (.panicked ch) w) w) w) w)) w) w) [(0, fun j1 x2 x3 x4 x5 x6 x7 w =>
  cl P F.lex_reader_skip [x5, (.func (.func F.lex_Read_1) #[] #[])] (fun t18 w =>
  nc x5 (fun t20 w =>
  fa 1 t20 (fun t21 w =>
  ld t21 (fun t22 w =>
  nc x5 (fun t25 w =>
  fa 1 t25 (fun t26 w =>
  ld t26 (fun t27 w =>
  lnS a0 (fun t29 w =>
  bI .eql .i64 t27 t29 (fun t30 w =>
  cnd t30
  (nc x5 (fun t33 w =>
  fa 1 t33 (fun t34 w =>
  ld t34 (fun t35 w =>
  bd [.int .i64 0, .string ⟨#[]⟩, .int .i64 0] [(2, 1, t35)] (fun t36 w =>
  bs 112 [.int .i64 0, .string ⟨#[]⟩, .int .i64 0] 1 [(0, 3, t36)] (fun t37 w =>
  ap 112 3 32 [.int .i64 0, .string ⟨#[]⟩, .int .i64 0] x6 t37 (fun t38 w =>
  R (.returned (.tuple #[t38, (Value.int IntKind.i64 0), (Value.int IntKind.i64 0)])) w) w) w) w) w) w) w)
  (nc x5 (fun t42 w =>
  fa 1 t42 (fun t43 w =>
  ld t43 (fun t44 w =>
  ix a0 t44 (fun t45 w =>
  bI .eql .u8 t45 (Value.int IntKind.u8 34) (fun t46 w =>
  cnd t46
  (nc x5 (fun t49 w =>
  fa 1 t49 (fun t50 w =>
  ld t50 (fun t51 w =>
  bI .add .i64 t51 (Value.int IntKind.i64 1) (fun t52 w =>
  slS a0 (some t52) none (fun t53 w =>
  cl P F.strings_IndexByte [t53, (Value.int IntKind.u8 34)] (fun t54 w =>
  bI .lss .i64 t54 (Value.int IntKind.i64 0) (fun t56 w =>
  cnd t56
  (sm [(a0, a0)] [] [] (j1 1 [x2, x3, x4, x5, x6, t22] w))
  (nc x5 (fun t58 w =>
  fa 1 t58 (fun t59 w =>
  ld t59 (fun t60 w =>
  bI .add .i64 t54 (Value.int IntKind.i64 2) (fun t62 w =>
  bI .add .i64 t60 t62 (fun t63 w =>
  nc x5 (fun t64 w =>
  fa 1 t64 (fun t65 w =>
  st 1 t65 t63 (fun w =>
  sm [(a0, a0)] [] [] (j1 0 [x2, x3, x4, x5, x6, t22] w)) w) w) w) w) w) w) w) w)) w) (fun ch w => R (.panicked ch) w) w) w) w) w) w) w)
  (cl P F.lex_reader_word [x5] (fun t68 w =>
  ex t68 0 (fun t69 w =>
  ex t68 1 (fun t70 w =>
  al [.int .i64 0, .string ⟨#[]⟩, .int .i64 0] 112 (fun t9 w =>
  st 3 t9 t69 (fun w =>
  cnd t70
  (ldn 3 t9 (fun t73 w =>
  bs 112 [.int .i64 0, .string ⟨#[]⟩, .int .i64 0] 1 [(0, 3, t73)] (fun t74 w =>
  ap 112 3 32 [.int .i64 0, .string ⟨#[]⟩, .int .i64 0] x6 t74 (fun t75 w =>
  sm [(a0, a0)] [] [] (j1 0 [x2, x3, x4, x5, t75, t22] w)) w) w) w)
  (R (.returned (.tuple #[(Value.slice none 0 0), t22, (Value.int IntKind.i64 20)])) w)) w) w) w) w) (fun ch w => R (.panicked ch) w) w)) w) w) w) w) w)) w) w) w) w) w) w) w) w) (fun ch w => R (.panicked ch) w) w),
  (1, fun j1 x2 x3 x4 x5 x6 x7 w =>
  R (.returned (.tuple #[(Value.slice none 0 0), x7, (Value.int IntKind.i64 20)])) w)]
theorem e_lex_Read (R : Ending → World → Prop) (a0 : Value) (w : World) : vcFn P tab 4000 Tryz.f38.ntmps (Tryz.f38.body.getD .skip) Tryz.f38.results.toList [a0] R w = d_lex_Read R a0 w := by kernel_rfl
theorem t_lex_Read (R : Ending → World → Prop) (a0 : Value) (w : World) (h : d_lex_Read R a0 w) : Tr P F.lex_Read [a0] w R :=
  fn_ok (fn := Tryz.f38) (c := Tryz.f38.body.getD .skip) (fuel := 4000) mixed tab_ok Tryz.func38 (by kernel_rfl) (by kernel_rfl) (Nat.le_of_ble_eq_true (by kernel_rfl)) (Eq.mpr (e_lex_Read R a0 w) h)
/-- lapidary/tree.unit$1 -/
def d_tree_unit_1 (rv : Value) (R : Ending → World → Prop) (a0 a1 a2 : Value) (w : World) : Prop :=
  rV P (eqRun .eql 20 (Operand.tmp 6) (Operand.const Value.nilIface) rv Value.nilIface) (fun t8 w =>
  cnd t8
  (R (.returned (.tuple #[])) w)
  (rV P (Instr.typeAssert rv 20 99 true) (fun t9 w =>
  ex t9 1 (fun t10 w =>
  ex t9 0 (fun t11 w =>
  cnd t10
  (al [.int .i64 0, .int .i64 0] 99 (fun t4 w =>
  st 2 t4 t11 (fun w =>
  drw w (fun w =>
  bd [.int .i64 0, .string ⟨#[]⟩, .int .i64 0, .int .i64 0, .slice none 0 0, .slice none 0 0] [] (fun t12 w =>
  fa 0 t4 (fun t13 w =>
  ld t13 (fun t14 w =>
  fa 1 t4 (fun t15 w =>
  ld t15 (fun t16 w =>
  st 6 a0 t12 (fun w =>
  rk false t15 t16
  (rk false t13 t14
  (st 1 a1 t14 (fun w =>
  rk false t15 t16
  (st 1 a2 t16 (fun w =>
  R (.returned (.tuple #[])) w) w) w) w) w) w) w) w) w) w) w) w)) w) w)
  (pn rv (fun ch w => R (.panicked ch) w) w)) w) w) w)) w
theorem e_tree_unit_1 (rv : Value) (R : Ending → World → Prop) (a0 a1 a2 : Value) (w : World) : vcRec P tab 4000 Tryz.f39.ntmps 6 (match Tryz.f39.body with | some (.seq _ c) => c | _ => .skip) Tryz.f39.results.toList [a0, a1, a2] rv R w = d_tree_unit_1 rv R a0 a1 a2 w := by kernel_rfl
theorem t_tree_unit_1 {R : Ending → FrameMode → World → Prop} {u : FrameMode} {a0 a1 a2 : Value} {w : World} (h : d_tree_unit_1 (recV u).1 (fun e w' => R e (recV u).2 w') a0 a1 a2 w) : CallsD P F.tree_unit_1 #[a0, a1, a2] u w R :=
  rec_ok (fn := Tryz.f39) (c := (match Tryz.f39.body with | some (.seq _ c) => c | _ => .skip)) (fuel := 4000) (id := 0) (d := 6) (o := (match Tryz.f39.body with | some (.seq (.region _ ops _) _) => ops[0]! | _ => default)) mixed tab_ok Tryz.func39 (by kernel_rfl) (by kernel_rfl) (by kernel_rfl) (by kernel_rfl) (Nat.le_of_ble_eq_true (by kernel_rfl)) (args := [a0, a1, a2]) (Nat.le_of_ble_eq_true (by kernel_rfl)) (Eq.mpr (e_tree_unit_1 _ _ a0 a1 a2 w) h)
theorem n_tree_unit_1 : Enter P F.tree_unit_1 := ⟨Tryz.f39, Tryz.func39, by kernel_rfl, by kernel_rfl⟩
end Go.Vx
set_option maxRecDepth 100000
set_option linter.unusedVariables false
namespace Go.Vx
open Go Go.Proofs
/-- (*lapidary/tree.parser).body -/
def d_tree_parser_body (R : Ending → World → Prop) (a0 a1 a2 : Value) (w : World) : Prop :=
  sc 0 (fun j1 =>
  jn 0 (fun w =>
  cl P F.tree_parser_kind [a0] (fun t31 w =>
  bI .eql .i64 t31 a2 (fun t33 w =>
  cnd t33
  (R (.returned (.tuple #[])) w)
  (cl P F.tree_parser_statement [a0] (fun t36 w =>
  ex t36 0 (fun t37 w =>
  ex t36 1 (fun t38 w =>
  al [.int .i64 0, .string ⟨#[]⟩, .int .i64 0, .int .i64 0, .slice none 0 0, .slice none 0 0] 50 (fun t6 w =>
  st 6 t6 t37 (fun w =>
  drw w (fun w =>
  (nc a1 (fun t40 w =>
  fa 5 t40 (fun t41 w =>
  ld t41 (fun t42 w =>
  ldn 6 t6 (fun t43 w =>
  lnL t42 (fun t44 w =>
  bs 50 [.int .i64 0, .string ⟨#[]⟩, .int .i64 0, .int .i64 0, .slice none 0 0, .slice none 0 0] 1 [(0, 6, (Value.agg #[(Value.int IntKind.i64 0), (Value.string { data := #[] }), (Value.int IntKind.i64 0), (Value.int IntKind.i64 0), (Value.slice none 0 0), (Value.slice none 0 0)]))] (fun t45 w =>
  rk true t6 t43
  (rk false t41 t42
  (ap 50 6 88 [.int .i64 0, .string ⟨#[]⟩, .int .i64 0, .int .i64 0, .slice none 0 0, .slice none 0 0] t42 t45 (fun t46 w =>
  ia 6 t46 t44 (fun t47 w =>
  nc a1 (fun t48 w =>
  fa 5 t48 (fun t49 w =>
  st 6 t47 t43 (fun w =>
  st 1 t49 t46 (fun w =>
  jn 0 (fun w =>
  cl P F.tree_parser_kind [a0] (fun t58 w =>
  bI .neq .i64 t58 a2 (fun t60 w =>
  cnd t60
  (cl P F.tree_parser_bad [a0, (Value.int IntKind.i64 20)] (fun t62 w =>
  R (.returned (.tuple #[])) w) (fun ch w => R (.panicked ch) w) w)
  (R (.returned (.tuple #[])) w)) w) (fun ch w => R (.panicked ch) w) w) (fun k3 =>
  cl P F.tree_parser_kind [a0] (fun t51 w =>
  bI .eql .i64 t51 (Value.int IntKind.i64 14) (fun t52 w =>
  cnd t52
  (cl P F.tree_parser_take [a0] (fun t54 w =>
  uN t38 (fun t56 w =>
  cnd t56
  (sm [(a0, a0), (a1, a1), (a2, a2)] [] [] (j1 0 [] w))
  (sm [(a0, a0), (a1, a1), (a2, a2)] [] [] (k3 w))) w) (fun ch w => R (.panicked ch) w) w)
  (sm [(a0, a0), (a1, a1), (a2, a2)] [] [] (k3 w))) w) (fun ch w => R (.panicked ch) w) w)) w) w) w) w) w) w) w) w) w) w) w) w) w) w) ∧
  (nc a1 (fun t40 w =>
  fa 5 t40 (fun t41 w =>
  ld t41 (fun t42 w =>
  ldn 6 t6 (fun t43 w =>
  lnL t42 (fun t44 w =>
  bs 50 [.int .i64 0, .string ⟨#[]⟩, .int .i64 0, .int .i64 0, .slice none 0 0, .slice none 0 0] 1 [(0, 6, (Value.agg #[(Value.int IntKind.i64 0), (Value.string { data := #[] }), (Value.int IntKind.i64 0), (Value.int IntKind.i64 0), (Value.slice none 0 0), (Value.slice none 0 0)]))] (fun t45 w =>
  rk true t6 t43
  (rk false t41 t42
  (ap 50 6 88 [.int .i64 0, .string ⟨#[]⟩, .int .i64 0, .int .i64 0, .slice none 0 0, .slice none 0 0] t42 t45 (fun t46 w =>
  ia 6 t46 t44 (fun t47 w =>
  nc a1 (fun t48 w =>
  fa 5 t48 (fun t49 w =>
  st 1 t49 t46 (fun w =>
  st 6 t47 t43 (fun w =>
  jn 0 (fun w =>
  cl P F.tree_parser_kind [a0] (fun t58 w =>
  bI .neq .i64 t58 a2 (fun t60 w =>
  cnd t60
  (cl P F.tree_parser_bad [a0, (Value.int IntKind.i64 20)] (fun t62 w =>
  R (.returned (.tuple #[])) w) (fun ch w => R (.panicked ch) w) w)
  (R (.returned (.tuple #[])) w)) w) (fun ch w => R (.panicked ch) w) w) (fun k4 =>
  cl P F.tree_parser_kind [a0] (fun t51 w =>
  bI .eql .i64 t51 (Value.int IntKind.i64 14) (fun t52 w =>
  cnd t52
  (cl P F.tree_parser_take [a0] (fun t54 w =>
  uN t38 (fun t56 w =>
  cnd t56
  (sm [(a0, a0), (a1, a1), (a2, a2)] [] [] (j1 0 [] w))
  (sm [(a0, a0), (a1, a1), (a2, a2)] [] [] (k4 w))) w) (fun ch w => R (.panicked ch) w) w)
  (sm [(a0, a0), (a1, a1), (a2, a2)] [] [] (k4 w))) w) (fun ch w => R (.panicked ch) w) w)) w) w) w) w) w) w) w) w) w) w) w) w) w) w))) w) w) w) w) (fun ch w => R (.panicked ch) w) w)) w) (fun ch w => R (.panicked ch) w) w) (fun k2 =>
  cl P F.tree_parser_kind [a0] (fun t9 w =>
  bI .eql .i64 t9 (Value.int IntKind.i64 12) (fun t10 w =>
  cnd t10
  (cl P F.tree_parser_take [a0] (fun t12 w =>
  lp 0 [] (fun r5 w =>
  cl P F.tree_parser_kind [a0] (fun t14 w =>
  bI .eql .i64 t14 (Value.int IntKind.i64 1) (fun t15 w =>
  cnd t15
  (drw w (fun w =>
  nc a1 (fun t18 w =>
  fa 4 t18 (fun t19 w =>
  ld t19 (fun t20 w =>
  cl P F.tree_parser_take [a0] (fun t22 w =>
  rk false t19 t20
  (fl false 1 1 t22 (fun t23 w =>
  bs 9 [.string ⟨#[]⟩] 1 [(0, 1, t23)] (fun t24 w =>
  rk false t19 t20
  (ap 9 1 16 [.string ⟨#[]⟩] t20 t24 (fun t25 w =>
  nc a1 (fun t26 w =>
  fa 4 t26 (fun t27 w =>
  st 1 t27 t25 (fun w =>
  sm [(a0, a0), (a1, a1), (a2, a2)] [] [] (r5 [] w)) w) w) w) w) w) w) w) w) (fun ch w => R (.panicked ch) w) w) w) w) w))
  (cl P F.tree_parser_need [a0, (Value.int IntKind.i64 12)] (fun t29 w =>
  sm [(a0, a0), (a1, a1), (a2, a2)] [] [] (k2 w)) (fun ch w => R (.panicked ch) w) w)) w) (fun ch w => R (.panicked ch) w) w) w) (fun ch w => R (.panicked ch) w) w)
  (sm [(a0, a0), (a1, a1), (a2, a2)] [] [] (k2 w))) w) (fun ch w => R (.panicked ch) w) w)) [(0, fun j1 w =>
  cl P F.tree_parser_kind [a0] (fun t31 w =>
  bI .eql .i64 t31 a2 (fun t33 w =>
  cnd t33
  (R (.returned (.tuple #[])) w)
  (cl P F.tree_parser_statement [a0] (fun t36 w =>
  ex t36 0 (fun t37 w =>
  ex t36 1 (fun t38 w =>
  al [.int .i64 0, .string ⟨#[]⟩, .int .i64 0, .int .i64 0, .slice none 0 0, .slice none 0 0] 50 (fun t6 w =>
  st 6 t6 t37 (fun w =>
  drw w (fun w =>
  (nc a1 (fun t40 w =>
  fa 5 t40 (fun t41 w =>
  ld t41 (fun t42 w =>
  ldn 6 t6 (fun t43 w =>
  lnL t42 (fun t44 w =>
  bs 50 [.int .i64 0, .string ⟨#[]⟩, .int .i64 0, .int .i64 0, .slice none 0 0, .slice none 0 0] 1 [(0, 6, (Value.agg #[(Value.int IntKind.i64 0), (Value.string { data := #[] }), (Value.int IntKind.i64 0), (Value.int IntKind.i64 0), (Value.slice none 0 0), (Value.slice none 0 0)]))] (fun t45 w =>
  rk true t6 t43
  (rk false t41 t42
  (ap 50 6 88 [.int .i64 0, .string ⟨#[]⟩, .int .i64 0, .int .i64 0, .slice none 0 0, .slice none 0 0] t42 t45 (fun t46 w =>
  ia 6 t46 t44 (fun t47 w =>
  nc a1 (fun t48 w =>
  fa 5 t48 (fun t49 w =>
  st 6 t47 t43 (fun w =>
  st 1 t49 t46 (fun w =>
  jn 0 (fun w =>
  cl P F.tree_parser_kind [a0] (fun t58 w =>
  bI .neq .i64 t58 a2 (fun t60 w =>
  cnd t60
  (cl P F.tree_parser_bad [a0, (Value.int IntKind.i64 20)] (fun t62 w =>
  R (.returned (.tuple #[])) w) (fun ch w => R (.panicked ch) w) w)
  (R (.returned (.tuple #[])) w)) w) (fun ch w => R (.panicked ch) w) w) (fun k6 =>
  cl P F.tree_parser_kind [a0] (fun t51 w =>
  bI .eql .i64 t51 (Value.int IntKind.i64 14) (fun t52 w =>
  cnd t52
  (cl P F.tree_parser_take [a0] (fun t54 w =>
  uN t38 (fun t56 w =>
  cnd t56
  (sm [(a0, a0), (a1, a1), (a2, a2)] [] [] (j1 0 [] w))
  (sm [(a0, a0), (a1, a1), (a2, a2)] [] [] (k6 w))) w) (fun ch w => R (.panicked ch) w) w)
  (sm [(a0, a0), (a1, a1), (a2, a2)] [] [] (k6 w))) w) (fun ch w => R (.panicked ch) w) w)) w) w) w) w) w) w) w) w) w) w) w) w) w) w) ∧
  (nc a1 (fun t40 w =>
  fa 5 t40 (fun t41 w =>
  ld t41 (fun t42 w =>
  ldn 6 t6 (fun t43 w =>
  lnL t42 (fun t44 w =>
  bs 50 [.int .i64 0, .string ⟨#[]⟩, .int .i64 0, .int .i64 0, .slice none 0 0, .slice none 0 0] 1 [(0, 6, (Value.agg #[(Value.int IntKind.i64 0), (Value.string { data := #[] }), (Value.int IntKind.i64 0), (Value.int IntKind.i64 0), (Value.slice none 0 0), (Value.slice none 0 0)]))] (fun t45 w =>
  rk true t6 t43
  (rk false t41 t42
  (ap 50 6 88 [.int .i64 0, .string ⟨#[]⟩, .int .i64 0, .int .i64 0, .slice none 0 0, .slice none 0 0] t42 t45 (fun t46 w =>
  ia 6 t46 t44 (fun t47 w =>
  nc a1 (fun t48 w =>
  fa 5 t48 (fun t49 w =>
  st 1 t49 t46 (fun w =>
  st 6 t47 t43 (fun w =>
  jn 0 (fun w =>
  cl P F.tree_parser_kind [a0] (fun t58 w =>
  bI .neq .i64 t58 a2 (fun t60 w =>
  cnd t60
  (cl P F.tree_parser_bad [a0, (Value.int IntKind.i64 20)] (fun t62 w =>
  R (.returned (.tuple #[])) w) (fun ch w => R (.panicked ch) w) w)
  (R (.returned (.tuple #[])) w)) w) (fun ch w => R (.panicked ch) w) w) (fun k7 =>
  cl P F.tree_parser_kind [a0] (fun t51 w =>
  bI .eql .i64 t51 (Value.int IntKind.i64 14) (fun t52 w =>
  cnd t52
  (cl P F.tree_parser_take [a0] (fun t54 w =>
  uN t38 (fun t56 w =>
  cnd t56
  (sm [(a0, a0), (a1, a1), (a2, a2)] [] [] (j1 0 [] w))
  (sm [(a0, a0), (a1, a1), (a2, a2)] [] [] (k7 w))) w) (fun ch w => R (.panicked ch) w) w)
  (sm [(a0, a0), (a1, a1), (a2, a2)] [] [] (k7 w))) w) (fun ch w => R (.panicked ch) w) w)) w) w) w) w) w) w) w) w) w) w) w) w) w) w))) w) w) w) w) (fun ch w => R (.panicked ch) w) w)) w) (fun ch w => R (.panicked ch) w) w)]
theorem e_tree_parser_body (R : Ending → World → Prop) (a0 a1 a2 : Value) (w : World) : vcFn P tab 4000 Tryz.f40.ntmps (Tryz.f40.body.getD .skip) Tryz.f40.results.toList [a0, a1, a2] R w = d_tree_parser_body R a0 a1 a2 w := by kernel_rfl
theorem t_tree_parser_body (R : Ending → World → Prop) (a0 a1 a2 : Value) (w : World) (h : d_tree_parser_body R a0 a1 a2 w) : Tr P F.tree_parser_body [a0, a1, a2] w R :=
  fn_ok (fn := Tryz.f40) (c := Tryz.f40.body.getD .skip) (fuel := 4000) mixed tab_ok Tryz.func40 (by kernel_rfl) (by kernel_rfl) (Nat.le_of_ble_eq_true (by kernel_rfl)) (Eq.mpr (e_tree_parser_body R a0 a1 a2 w) h)
/-- lapidary/scope.Resolve$1 -/
def d_scope_Resolve_1 (rv : Value) (R : Ending → World → Prop) (a0 a1 a2 : Value) (w : World) : Prop :=
  rV P (eqRun .eql 20 (Operand.tmp 6) (Operand.const Value.nilIface) rv Value.nilIface) (fun t8 w =>
  cnd t8
  (R (.returned (.tuple #[])) w)
  (rV P (Instr.typeAssert rv 20 104 true) (fun t9 w =>
  ex t9 1 (fun t10 w =>
  ex t9 0 (fun t11 w =>
  cnd t10
  (al [.int .i64 0] 104 (fun t4 w =>
  st 1 t4 t11 (fun w =>
  drw w (fun w =>
  fa 0 t4 (fun t12 w =>
  ld t12 (fun t13 w =>
  st 1 a0 (Value.slice none 0 0) (fun w =>
  rk false t12 t13
  (st 1 a1 t13 (fun w =>
  st 1 a2 (Value.int IntKind.i64 21) (fun w =>
  R (.returned (.tuple #[])) w) w) w) w) w) w) w)) w) w)
  (pn rv (fun ch w => R (.panicked ch) w) w)) w) w) w)) w
theorem e_scope_Resolve_1 (rv : Value) (R : Ending → World → Prop) (a0 a1 a2 : Value) (w : World) : vcRec P tab 4000 Tryz.f41.ntmps 6 (match Tryz.f41.body with | some (.seq _ c) => c | _ => .skip) Tryz.f41.results.toList [a0, a1, a2] rv R w = d_scope_Resolve_1 rv R a0 a1 a2 w := by kernel_rfl
theorem t_scope_Resolve_1 {R : Ending → FrameMode → World → Prop} {u : FrameMode} {a0 a1 a2 : Value} {w : World} (h : d_scope_Resolve_1 (recV u).1 (fun e w' => R e (recV u).2 w') a0 a1 a2 w) : CallsD P F.scope_Resolve_1 #[a0, a1, a2] u w R :=
  rec_ok (fn := Tryz.f41) (c := (match Tryz.f41.body with | some (.seq _ c) => c | _ => .skip)) (fuel := 4000) (id := 0) (d := 6) (o := (match Tryz.f41.body with | some (.seq (.region _ ops _) _) => ops[0]! | _ => default)) mixed tab_ok Tryz.func41 (by kernel_rfl) (by kernel_rfl) (by kernel_rfl) (by kernel_rfl) (Nat.le_of_ble_eq_true (by kernel_rfl)) (args := [a0, a1, a2]) (Nat.le_of_ble_eq_true (by kernel_rfl)) (Eq.mpr (e_scope_Resolve_1 _ _ a0 a1 a2 w) h)
theorem n_scope_Resolve_1 : Enter P F.scope_Resolve_1 := ⟨Tryz.f41, Tryz.func41, by kernel_rfl, by kernel_rfl⟩
/-- (*lapidary/scope.walk).unit -/
def d_scope_walk_unit (R : Ending → World → Prop) (a0 a1 a2 : Value) (w : World) : Prop :=
  al a1.cells.toList 50 (fun t4 w =>
  ldn 6 t4 (fun t13 w =>
  bd [.int .i64 0, .string ⟨#[]⟩, .int .i64 0, .int .i64 0, .slice none 0 0, .slice none 0 0, .pointer none] [(0, 6, t13), (6, 1, a2)] (fun t15 w =>
  al t15.cells.toList 144 (fun t16 w =>
  nc t16 (fun t18 w =>
  fa 0 t18 (fun t19 w =>
  fa 4 t19 (fun t20 w =>
  ld t20 (fun t21 w =>
  lnL t21 (fun t22 w =>
  lp 1 [(Value.int IntKind.i64 0)] (fun r1 x23 w =>
  bI .lss .i64 x23 t22 (fun t24 w =>
  cnd t24
  (ia 1 t21 x23 (fun t26 w =>
  ld t26 (fun t27 w =>
  cl P F.scope_fixed [t27] (fun t30 w =>
  ex t30 0 (fun t31 w =>
  ex t30 1 (fun t32 w =>
  al [.int .i64 0, .string ⟨#[]⟩, .int .i64 0, .int .i64 0, .int .i64 0, .bool false] 146 (fun t9 w =>
  st 6 t9 t31 (fun w =>
  jn 10 (fun x35 x36 x37 x38 x39 x40 x41 x42 x43 x44 w =>
  cnd x44
  (nc t16 (fun t46 w =>
  fa 0 t46 (fun t47 w =>
  fa 2 t47 (fun t48 w =>
  ld t48 (fun t49 w =>
  bd [.int .i64 0] [(0, 1, t49)] (fun t50 w =>
  pn (.iface 104 t50) (fun ch w => R (.panicked ch) w) w) w) w) w) w) w)
  (bI .add .i64 x23 (Value.int IntKind.i64 1) (fun t52 w =>
  sm [(a0, a0), (t16, t16), (t21, t21), (t22, t22)] [] [] (r1 [t52] w)) w)) (fun k2 =>
  cnd t32
  (sm [(a0, a0), (t16, t16), (t21, t21), (t22, t22), (x23, x23)] [] [] (k2 undef undef undef undef undef undef undef undef undef (.bool true) w))
  (nc t16 (fun t36 w =>
  fa 0 t36 (fun t37 w =>
  fa 4 t37 (fun t38 w =>
  ld t38 (fun t39 w =>
  slL 1 t39 none (some x23) none (fun t41 w =>
  cl P F.slices_Contains_string_string [t41, t27] (fun t43 w =>
  sm [(a0, a0), (t16, t16), (t21, t21), (t22, t22), (x23, x23)] [] [] (k2 t16 t36 t37 t38 t39 x23 t41 t27 t43 t43 w)) (fun ch w => R (.panicked ch) w) w) w) w) w) w) w))) w) w) w) w) (fun ch w => R (.panicked ch) w) w) w) w)
  (nc t16 (fun t54 w =>
  fa 0 t54 (fun t55 w =>
  fa 5 t55 (fun t56 w =>
  ld t56 (fun t57 w =>
  lnL t57 (fun t58 w =>
  lp 1 [(Value.int IntKind.i64 0)] (fun r3 x59 w =>
  bI .lss .i64 x59 t58 (fun t60 w =>
  cnd t60
  (ia 6 t57 x59 (fun t61 w =>
  ldn 6 t61 (fun t62 w =>
  al [.int .i64 0, .string ⟨#[]⟩, .int .i64 0, .int .i64 0, .slice none 0 0, .slice none 0 0] 50 (fun t12 w =>
  st 6 t12 t62 (fun w =>
  ldn 6 t12 (fun t64 w =>
  cl P F.scope_walk_part [a0, t64, t16, (.bool false)] (fun t66 w =>
  bI .add .i64 x59 (Value.int IntKind.i64 1) (fun t67 w =>
  sm [(a0, a0), (t16, t16), (t57, t57), (t58, t58)] [] [] (r3 [t67] w)) w) (fun ch w => R (.panicked ch) w) w) w) w) w) w) w)
  (R (.returned (.tuple #[])) w)) w) w) w) w) w) w) w)) w) w) w) w) w) w) w) w) w) w) w
theorem e_scope_walk_unit (R : Ending → World → Prop) (a0 a1 a2 : Value) (w : World) : vcFn P tab 4000 Tryz.f42.ntmps (Tryz.f42.body.getD .skip) Tryz.f42.results.toList [a0, a1, a2] R w = d_scope_walk_unit R a0 a1 a2 w := by kernel_rfl
theorem t_scope_walk_unit (R : Ending → World → Prop) (a0 a1 a2 : Value) (w : World) (h : d_scope_walk_unit R a0 a1 a2 w) : Tr P F.scope_walk_unit [a0, a1, a2] w R :=
  fn_ok (fn := Tryz.f42) (c := Tryz.f42.body.getD .skip) (fuel := 4000) mixed tab_ok Tryz.func42 (by kernel_rfl) (by kernel_rfl) (Nat.le_of_ble_eq_true (by kernel_rfl)) (Eq.mpr (e_scope_walk_unit R a0 a1 a2 w) h)
/-- (*lapidary/code.maker).add -/
def d_code_maker_add (R : Ending → World → Prop) (a0 a1 a2 a3 a4 : Value) (w : World) : Prop :=
  drw w (fun w =>
  nc a0 (fun t11 w =>
  fa 0 t11 (fun t12 w =>
  fa 1 t12 (fun t13 w =>
  ld t13 (fun t14 w =>
  nc a0 (fun t17 w =>
  fa 0 t17 (fun t18 w =>
  fa 1 t18 (fun t19 w =>
  ld t19 (fun t20 w =>
  ia 3 t20 a1 (fun t22 w =>
  fa 2 t22 (fun t23 w =>
  ld t23 (fun t24 w =>
  bd [.int .i64 0, .int .i64 0, .int .i64 0] [(0, 1, a2), (1, 1, a3), (2, 1, a4)] (fun t28 w =>
  bs 57 [.int .i64 0, .int .i64 0, .int .i64 0] 1 [(0, 3, t28)] (fun t29 w =>
  rk false t23 t24
  (rk false t19 t20
  (rk false t13 t14
  (ap 57 3 24 [.int .i64 0, .int .i64 0, .int .i64 0] t24 t29 (fun t30 w =>
  rk false t13 t14
  (ia 3 t14 a1 (fun t31 w =>
  fa 2 t31 (fun t32 w =>
  st 1 t32 t30 (fun w =>
  R (.returned (.tuple #[])) w) w) w) w) w) w) w) w) w) w) w) w) w) w) w) w) w) w) w) w) w) w)
theorem e_code_maker_add (R : Ending → World → Prop) (a0 a1 a2 a3 a4 : Value) (w : World) : vcFn P tab 4000 Tryz.f43.ntmps (Tryz.f43.body.getD .skip) Tryz.f43.results.toList [a0, a1, a2, a3, a4] R w = d_code_maker_add R a0 a1 a2 a3 a4 w := by kernel_rfl
theorem t_code_maker_add (R : Ending → World → Prop) (a0 a1 a2 a3 a4 : Value) (w : World) (h : d_code_maker_add R a0 a1 a2 a3 a4 w) : Tr P F.code_maker_add [a0, a1, a2, a3, a4] w R :=
  fn_ok (fn := Tryz.f43) (c := Tryz.f43.body.getD .skip) (fuel := 4000) mixed tab_ok Tryz.func43 (by kernel_rfl) (by kernel_rfl) (Nat.le_of_ble_eq_true (by kernel_rfl)) (Eq.mpr (e_code_maker_add R a0 a1 a2 a3 a4 w) h)
/-- (*lapidary/code.maker).part -/
def d_code_maker_part (R : Ending → World → Prop) (a0 a1 a2 : Value) (w : World) : Prop :=
  al a2.cells.toList 50 (fun t5 w =>
  fa 0 t5 (fun t10 w =>
  ld t10 (fun t11 w =>
  jn 1 (fun x12 w =>
  cnd x12
  (drw w (fun w =>
  nc a0 (fun t20 w =>
  fa 0 t20 (fun t21 w =>
  fa 2 t21 (fun t22 w =>
  ldn 6 t5 (fun t23 w =>
  cl P F.tree_Text [t23] (fun t24 w =>
  cl P F.code_once [t22, t24] (fun t25 w =>
  cl P F.code_maker_add [a0, a1, (Value.int IntKind.i64 0), t25, (Value.int IntKind.i64 0)] (fun t26 w =>
  R (.returned (.tuple #[])) w) (fun ch w => R (.panicked ch) w) w) (fun ch w => R (.panicked ch) w) w) (fun ch w => R (.panicked ch) w) w) w) w) w) w))
  (bI .eql .i64 t11 (Value.int IntKind.i64 5) (fun t28 w =>
  cnd t28
  (cl P F.code_maker_name [a0, a1] (fun t31 w =>
  R (.returned (.tuple #[])) w) (fun ch w => R (.panicked ch) w) w)
  (bI .eql .i64 t11 (Value.int IntKind.i64 6) (fun t33 w =>
  cnd t33
  (cl P F.code_maker_use [a0] (fun t35 w =>
  al [.int .i64 0, .string ⟨#[]⟩, .int .i64 0, .int .i64 0, .int .i64 0, .bool false] 146 (fun t6 w =>
  st 6 t6 t35 (fun w =>
  fa 5 t5 (fun t38 w =>
  ld t38 (fun t39 w =>
  ia 6 t39 (Value.int IntKind.i64 0) (fun t40 w =>
  ldn 6 t40 (fun t41 w =>
  cl P F.code_maker_part [a0, a1, t41] (fun t42 w =>
  fa 2 t6 (fun t43 w =>
  ld t43 (fun t44 w =>
  bI .eql .i64 t44 (Value.int IntKind.i64 3) (fun t45 w =>
  cnd t45
  (fa 3 t6 (fun t48 w =>
  ld t48 (fun t49 w =>
  fa 4 t6 (fun t50 w =>
  ld t50 (fun t51 w =>
  cl P F.code_maker_add [a0, a1, (Value.int IntKind.i64 2), t49, t51] (fun t52 w =>
  R (.returned (.tuple #[])) w) (fun ch w => R (.panicked ch) w) w) w) w) w) w)
  (fa 4 t6 (fun t55 w =>
  ld t55 (fun t56 w =>
  cl P F.code_maker_add [a0, a1, (Value.int IntKind.i64 4), t56, (Value.int IntKind.i64 0)] (fun t57 w =>
  R (.returned (.tuple #[])) w) (fun ch w => R (.panicked ch) w) w) w) w)) w) w) w) (fun ch w => R (.panicked ch) w) w) w) w) w) w) w) w) (fun ch w => R (.panicked ch) w) w)
  (bI .eql .i64 t11 (Value.int IntKind.i64 7) (fun t59 w =>
  cnd t59
  (fa 5 t5 (fun t62 w =>
  ld t62 (fun t63 w =>
  ia 6 t63 (Value.int IntKind.i64 0) (fun t64 w =>
  ldn 6 t64 (fun t65 w =>
  cl P F.code_maker_part [a0, a1, t65] (fun t66 w =>
  drw w (fun w =>
  fa 5 t5 (fun t69 w =>
  ld t69 (fun t70 w =>
  ia 6 t70 (Value.int IntKind.i64 0) (fun t71 w =>
  ldn 6 t71 (fun t72 w =>
  fa 1 t5 (fun t73 w =>
  ld t73 (fun t74 w =>
  fa 5 t5 (fun t75 w =>
  ld t75 (fun t76 w =>
  slL 6 t76 (some (Value.int IntKind.i64 1)) none none (fun t77 w =>
  cl P F.code_maker_send [a0, a1, t72, t74, t77] (fun t78 w =>
  R (.returned (.tuple #[])) w) (fun ch w => R (.panicked ch) w) w) w) w) w) w) w) w) w) w) w)) (fun ch w => R (.panicked ch) w) w) w) w) w) w)
  (bI .eql .i64 t11 (Value.int IntKind.i64 8) (fun t80 w =>
  cnd t80
  (fa 5 t5 (fun t83 w =>
  ld t83 (fun t84 w =>
  ia 6 t84 (Value.int IntKind.i64 0) (fun t85 w =>
  ldn 6 t85 (fun t86 w =>
  cl P F.code_maker_part [a0, a1, t86] (fun t87 w =>
  fa 5 t5 (fun t88 w =>
  ld t88 (fun t89 w =>
  lnL t89 (fun t90 w =>
  bI .sub .i64 t90 (Value.int IntKind.i64 1) (fun t91 w =>
  fa 5 t5 (fun t92 w =>
  ld t92 (fun t93 w =>
  slL 6 t93 (some (Value.int IntKind.i64 1)) (some t91) none (fun t95 w =>
  lnL t95 (fun t96 w =>
  lp 1 [(Value.int IntKind.i64 0)] (fun r2 x97 w =>
  bI .lss .i64 x97 t96 (fun t98 w =>
  cnd t98
  (ia 6 t95 x97 (fun t99 w =>
  ldn 6 t99 (fun t100 w =>
  al [.int .i64 0, .string ⟨#[]⟩, .int .i64 0, .int .i64 0, .slice none 0 0, .slice none 0 0] 50 (fun t9 w =>
  st 6 t9 t100 (fun w =>
  cl P F.code_maker_add [a0, a1, (Value.int IntKind.i64 11), (Value.int IntKind.i64 0), (Value.int IntKind.i64 0)] (fun t103 w =>
  drw w (fun w =>
  fa 5 t5 (fun t106 w =>
  ld t106 (fun t107 w =>
  ia 6 t107 (Value.int IntKind.i64 0) (fun t108 w =>
  ldn 6 t108 (fun t109 w =>
  fa 1 t9 (fun t110 w =>
  ld t110 (fun t111 w =>
  fa 5 t9 (fun t112 w =>
  ld t112 (fun t113 w =>
  cl P F.code_maker_send [a0, a1, t109, t111, t113] (fun t114 w =>
  cl P F.code_maker_add [a0, a1, (Value.int IntKind.i64 12), (Value.int IntKind.i64 0), (Value.int IntKind.i64 0)] (fun t117 w =>
  bI .add .i64 x97 (Value.int IntKind.i64 1) (fun t118 w =>
  sm [(a0, a0), (a1, a1), (t5, t5), (t91, t91), (t95, t95), (t96, t96)] [] [] (r2 [t118] w)) w) (fun ch w => R (.panicked ch) w) w) (fun ch w => R (.panicked ch) w) w) w) w) w) w) w) w) w) w)) (fun ch w => R (.panicked ch) w) w) w) w) w) w)
  (drw w (fun w =>
  fa 5 t5 (fun t121 w =>
  ld t121 (fun t122 w =>
  ia 6 t122 (Value.int IntKind.i64 0) (fun t123 w =>
  ldn 6 t123 (fun t124 w =>
  fa 5 t5 (fun t125 w =>
  ld t125 (fun t126 w =>
  ia 6 t126 t91 (fun t128 w =>
  fa 1 t128 (fun t129 w =>
  ld t129 (fun t130 w =>
  fa 5 t5 (fun t131 w =>
  ld t131 (fun t132 w =>
  ia 6 t132 t91 (fun t134 w =>
  fa 5 t134 (fun t135 w =>
  ld t135 (fun t136 w =>
  cl P F.code_maker_send [a0, a1, t124, t130, t136] (fun t137 w =>
  R (.returned (.tuple #[])) w) (fun ch w => R (.panicked ch) w) w) w) w) w) w) w) w) w) w) w) w) w) w) w) w))) w) w) w) w) w) w) w) w) w) w) (fun ch w => R (.panicked ch) w) w) w) w) w) w)
  (bI .eql .i64 t11 (Value.int IntKind.i64 10) (fun t139 w =>
  cnd t139
  (nc a0 (fun t143 w =>
  fa 0 t143 (fun t144 w =>
  fa 1 t144 (fun t145 w =>
  ld t145 (fun t146 w =>
  lnL t146 (fun t147 w =>
  cl P F.code_maker_add [a0, a1, (Value.int IntKind.i64 10), t147, (Value.int IntKind.i64 0)] (fun t148 w =>
  ldn 6 t5 (fun t150 w =>
  cl P F.code_maker_unit [a0, t150] (fun t151 w =>
  R (.returned (.tuple #[])) w) (fun ch w => R (.panicked ch) w) w) w) (fun ch w => R (.panicked ch) w) w) w) w) w) w) w)
  (R (.returned (.tuple #[])) w)) w)) w)) w)) w)) w)) (fun k1 =>
  bI .eql .i64 t11 (Value.int IntKind.i64 1) (fun t13 w =>
  cnd t13
  (sm [(a0, a0), (a1, a1), (t5, t5), (t11, t11)] [] [] (k1 t13 w))
  (bI .eql .i64 t11 (Value.int IntKind.i64 2) (fun t14 w =>
  cnd t14
  (sm [(a0, a0), (a1, a1), (t5, t5), (t11, t11)] [] [] (k1 t14 w))
  (bI .eql .i64 t11 (Value.int IntKind.i64 3) (fun t15 w =>
  cnd t15
  (sm [(a0, a0), (a1, a1), (t5, t5), (t11, t11)] [] [] (k1 t15 w))
  (bI .eql .i64 t11 (Value.int IntKind.i64 4) (fun t16 w =>
  sm [(a0, a0), (a1, a1), (t5, t5), (t11, t11)] [] [] (k1 t16 w)) w)) w)) w)) w)) w) w) w
theorem e_code_maker_part (R : Ending → World → Prop) (a0 a1 a2 : Value) (w : World) : vcFn P tab 4000 Tryz.f44.ntmps (Tryz.f44.body.getD .skip) Tryz.f44.results.toList [a0, a1, a2] R w = d_code_maker_part R a0 a1 a2 w := by kernel_rfl
theorem t_code_maker_part (R : Ending → World → Prop) (a0 a1 a2 : Value) (w : World) (h : d_code_maker_part R a0 a1 a2 w) : Tr P F.code_maker_part [a0, a1, a2] w R :=
  fn_ok (fn := Tryz.f44) (c := Tryz.f44.body.getD .skip) (fuel := 4000) mixed tab_ok Tryz.func44 (by kernel_rfl) (by kernel_rfl) (Nat.le_of_ble_eq_true (by kernel_rfl)) (Eq.mpr (e_code_maker_part R a0 a1 a2 w) h)
/-- (*lapidary/tree.parser).pattern$1 -/
def d_tree_parser_pattern_1 (R : Ending → World → Prop) (a0 a1 : Value) (w : World) : Prop :=
  drw w (fun w =>
  ld a0 (fun t2 w =>
  ld a0 (fun t3 w =>
  nc t3 (fun t4 w =>
  fa 4 t4 (fun t5 w =>
  ld t5 (fun t6 w =>
  ld a1 (fun t7 w =>
  cl P F.tree_parser_need [t7, (Value.int IntKind.i64 1)] (fun t8 w =>
  rk false t5 t6
  (rk false a0 t3
  (rk false a0 t2
  (fl false 1 1 t8 (fun t9 w =>
  bs 9 [.string ⟨#[]⟩] 1 [(0, 1, t9)] (fun t10 w =>
  rk false t5 t6
  (rk false a0 t3
  (rk false a0 t2
  (ap 9 1 16 [.string ⟨#[]⟩] t6 t10 (fun t11 w =>
  rk false a0 t2
  (nc t2 (fun t12 w =>
  fa 4 t12 (fun t13 w =>
  st 1 t13 t11 (fun w =>
  R (.returned (.tuple #[])) w) w) w) w) w) w) w) w) w) w) w) w) w) w) (fun ch w => R (.panicked ch) w) w) w) w) w) w) w) w)
theorem e_tree_parser_pattern_1 (R : Ending → World → Prop) (a0 a1 : Value) (w : World) : vcFn P tab 4000 Tryz.f45.ntmps (Tryz.f45.body.getD .skip) Tryz.f45.results.toList [a0, a1] R w = d_tree_parser_pattern_1 R a0 a1 w := by kernel_rfl
theorem t_tree_parser_pattern_1 (R : Ending → World → Prop) (a0 a1 : Value) (w : World) (h : d_tree_parser_pattern_1 R a0 a1 w) : Tr P F.tree_parser_pattern_1 [a0, a1] w R :=
  fn_ok (fn := Tryz.f45) (c := Tryz.f45.body.getD .skip) (fuel := 4000) mixed tab_ok Tryz.func45 (by kernel_rfl) (by kernel_rfl) (Nat.le_of_ble_eq_true (by kernel_rfl)) (Eq.mpr (e_tree_parser_pattern_1 R a0 a1 w) h)
/-- (*lapidary/tree.parser).need -/
def d_tree_parser_need (R : Ending → World → Prop) (a0 a1 : Value) (w : World) : Prop :=
  al [.int .i64 0, .string ⟨#[]⟩, .int .i64 0] 112 (fun t4 w =>
  cl P F.tree_parser_kind [a0] (fun t6 w =>
  bI .neq .i64 t6 a1 (fun t8 w =>
  cnd t8
  (cl P F.tree_parser_bad [a0, (Value.int IntKind.i64 20)] (fun t10 w =>
  cl P F.tree_parser_take [a0] (fun t12 w =>
  st 3 t4 t12 (fun w =>
  ldn 3 t4 (fun r0 w =>
  R (.returned r0) w) w) w) (fun ch w => R (.panicked ch) w) w) (fun ch w => R (.panicked ch) w) w)
  (cl P F.tree_parser_take [a0] (fun t12 w =>
  st 3 t4 t12 (fun w =>
  ldn 3 t4 (fun r0 w =>
  R (.returned r0) w) w) w) (fun ch w => R (.panicked ch) w) w)) w) (fun ch w => R (.panicked ch) w) w) w
theorem e_tree_parser_need (R : Ending → World → Prop) (a0 a1 : Value) (w : World) : vcFn P tab 4000 Tryz.f46.ntmps (Tryz.f46.body.getD .skip) Tryz.f46.results.toList [a0, a1] R w = d_tree_parser_need R a0 a1 w := by kernel_rfl
theorem t_tree_parser_need (R : Ending → World → Prop) (a0 a1 : Value) (w : World) (h : d_tree_parser_need R a0 a1 w) : Tr P F.tree_parser_need [a0, a1] w R :=
  fn_ok (fn := Tryz.f46) (c := Tryz.f46.body.getD .skip) (fuel := 4000) mixed tab_ok Tryz.func46 (by kernel_rfl) (by kernel_rfl) (Nat.le_of_ble_eq_true (by kernel_rfl)) (Eq.mpr (e_tree_parser_need R a0 a1 w) h)
/-- (*lapidary/tree.parser).take -/
def d_tree_parser_take (R : Ending → World → Prop) (a0 : Value) (w : World) : Prop :=
  al [.int .i64 0, .string ⟨#[]⟩, .int .i64 0] 112 (fun t2 w =>
  nc a0 (fun t5 w =>
  fa 0 t5 (fun t6 w =>
  ld t6 (fun t7 w =>
  ia 3 t7 (Value.int IntKind.i64 0) (fun t8 w =>
  ldn 3 t8 (fun t9 w =>
  al [.int .i64 0, .string ⟨#[]⟩, .int .i64 0] 112 (fun t3 w =>
  st 3 t3 t9 (fun w =>
  fa 0 t3 (fun t10 w =>
  ld t10 (fun t11 w =>
  bI .neq .i64 t11 (Value.int IntKind.i64 0) (fun t12 w =>
  cnd t12
  (nc a0 (fun t15 w =>
  fa 0 t15 (fun t16 w =>
  ld t16 (fun t17 w =>
  slL 3 t17 (some (Value.int IntKind.i64 1)) none none (fun t18 w =>
  nc a0 (fun t19 w =>
  fa 0 t19 (fun t20 w =>
  st 1 t20 t18 (fun w =>
  ldn 3 t3 (fun t21 w =>
  st 3 t2 t21 (fun w =>
  ldn 3 t2 (fun r0 w =>
  R (.returned r0) w) w) w) w) w) w) w) w) w) w) w)
  (ldn 3 t3 (fun t21 w =>
  st 3 t2 t21 (fun w =>
  ldn 3 t2 (fun r0 w =>
  R (.returned r0) w) w) w) w)) w) w) w) w) w) w) w) w) w) w) w
theorem e_tree_parser_take (R : Ending → World → Prop) (a0 : Value) (w : World) : vcFn P tab 4000 Tryz.f47.ntmps (Tryz.f47.body.getD .skip) Tryz.f47.results.toList [a0] R w = d_tree_parser_take R a0 w := by kernel_rfl
theorem t_tree_parser_take (R : Ending → World → Prop) (a0 : Value) (w : World) (h : d_tree_parser_take R a0 w) : Tr P F.tree_parser_take [a0] w R :=
  fn_ok (fn := Tryz.f47) (c := Tryz.f47.body.getD .skip) (fuel := 4000) mixed tab_ok Tryz.func47 (by kernel_rfl) (by kernel_rfl) (Nat.le_of_ble_eq_true (by kernel_rfl)) (Eq.mpr (e_tree_parser_take R a0 w) h)
/-- (*lapidary/tree.parser).kind -/
def d_tree_parser_kind (R : Ending → World → Prop) (a0 : Value) (w : World) : Prop :=
  nc a0 (fun t4 w =>
  fa 0 t4 (fun t5 w =>
  ld t5 (fun t6 w =>
  ia 3 t6 (Value.int IntKind.i64 0) (fun t7 w =>
  fa 0 t7 (fun t8 w =>
  ld t8 (fun t9 w =>
  R (.returned t9) w) w) w) w) w) w) w
theorem e_tree_parser_kind (R : Ending → World → Prop) (a0 : Value) (w : World) : vcFn P tab 4000 Tryz.f48.ntmps (Tryz.f48.body.getD .skip) Tryz.f48.results.toList [a0] R w = d_tree_parser_kind R a0 w := by kernel_rfl
theorem t_tree_parser_kind (R : Ending → World → Prop) (a0 : Value) (w : World) (h : d_tree_parser_kind R a0 w) : Tr P F.tree_parser_kind [a0] w R :=
  fn_ok (fn := Tryz.f48) (c := Tryz.f48.body.getD .skip) (fuel := 4000) mixed tab_ok Tryz.func48 (by kernel_rfl) (by kernel_rfl) (Nat.le_of_ble_eq_true (by kernel_rfl)) (Eq.mpr (e_tree_parser_kind R a0 w) h)
/-- (lapidary/code.Ins).effect -/
def d_code_Ins_effect (R : Ending → World → Prop) (a0 : Value) (w : World) : Prop :=
  al a0.cells.toList 57 (fun t1 w =>
  fa 0 t1 (fun t5 w =>
  ld t5 (fun t6 w =>
  jn 1 (fun x7 w =>
  cnd x7
  (R (.returned (.tuple #[(Value.int IntKind.i64 0), (Value.int IntKind.i64 1), (.bool true)])) w)
  (jn 1 (fun x15 w =>
  cnd x15
  (R (.returned (.tuple #[(Value.int IntKind.i64 1), (Value.int IntKind.i64 1), (.bool true)])) w)
  (jn 1 (fun x18 w =>
  cnd x18
  (drw w (fun w =>
  fa 2 t1 (fun t21 w =>
  ld t21 (fun t22 w =>
  fa 2 t1 (fun t23 w =>
  ld t23 (fun t24 w =>
  bI .geq .i64 t24 (Value.int IntKind.i64 0) (fun t25 w =>
  R (.returned (.tuple #[t22, (Value.int IntKind.i64 0), t25])) w) w) w) w) w) w))
  (bI .eql .i64 t6 (Value.int IntKind.i64 11) (fun t27 w =>
  cnd t27
  (R (.returned (.tuple #[(Value.int IntKind.i64 1), (Value.int IntKind.i64 2), (.bool true)])) w)
  (bI .eql .i64 t6 (Value.int IntKind.i64 12) (fun t29 w =>
  cnd t29
  (cnd t29
  (R (.returned (.tuple #[(Value.int IntKind.i64 1), (Value.int IntKind.i64 0), (.bool true)])) w)
  (R (.returned (.tuple #[(Value.int IntKind.i64 0), (Value.int IntKind.i64 0), (.bool false)])) w))
  (bI .eql .i64 t6 (Value.int IntKind.i64 13) (fun t30 w =>
  cnd t30
  (cnd t30
  (R (.returned (.tuple #[(Value.int IntKind.i64 1), (Value.int IntKind.i64 0), (.bool true)])) w)
  (R (.returned (.tuple #[(Value.int IntKind.i64 0), (Value.int IntKind.i64 0), (.bool false)])) w))
  (bI .eql .i64 t6 (Value.int IntKind.i64 14) (fun t31 w =>
  cnd t31
  (R (.returned (.tuple #[(Value.int IntKind.i64 1), (Value.int IntKind.i64 0), (.bool true)])) w)
  (R (.returned (.tuple #[(Value.int IntKind.i64 0), (Value.int IntKind.i64 0), (.bool false)])) w)) w)) w)) w)) w)) (fun k3 =>
  bI .eql .i64 t6 (Value.int IntKind.i64 8) (fun t19 w =>
  cnd t19
  (sm [(t1, t1), ((Value.int IntKind.i64 0), (Value.int IntKind.i64 0)), ((Value.int IntKind.i64 0), (Value.int IntKind.i64 0)), ((.bool false), (.bool false)), (t6, t6)] [] [] (k3 t19 w))
  (bI .eql .i64 t6 (Value.int IntKind.i64 9) (fun t20 w =>
  sm [(t1, t1), ((Value.int IntKind.i64 0), (Value.int IntKind.i64 0)), ((Value.int IntKind.i64 0), (Value.int IntKind.i64 0)), ((.bool false), (.bool false)), (t6, t6)] [] [] (k3 t20 w)) w)) w))) (fun k2 =>
  bI .eql .i64 t6 (Value.int IntKind.i64 2) (fun t16 w =>
  cnd t16
  (sm [(t1, t1), ((Value.int IntKind.i64 0), (Value.int IntKind.i64 0)), ((Value.int IntKind.i64 0), (Value.int IntKind.i64 0)), ((.bool false), (.bool false)), (t6, t6)] [] [] (k2 t16 w))
  (bI .eql .i64 t6 (Value.int IntKind.i64 4) (fun t17 w =>
  sm [(t1, t1), ((Value.int IntKind.i64 0), (Value.int IntKind.i64 0)), ((Value.int IntKind.i64 0), (Value.int IntKind.i64 0)), ((.bool false), (.bool false)), (t6, t6)] [] [] (k2 t17 w)) w)) w))) (fun k1 =>
  bI .eql .i64 t6 (Value.int IntKind.i64 0) (fun t8 w =>
  cnd t8
  (sm [(t1, t1), ((Value.int IntKind.i64 0), (Value.int IntKind.i64 0)), ((Value.int IntKind.i64 0), (Value.int IntKind.i64 0)), ((.bool false), (.bool false)), (t6, t6)] [] [] (k1 t8 w))
  (bI .eql .i64 t6 (Value.int IntKind.i64 1) (fun t9 w =>
  cnd t9
  (sm [(t1, t1), ((Value.int IntKind.i64 0), (Value.int IntKind.i64 0)), ((Value.int IntKind.i64 0), (Value.int IntKind.i64 0)), ((.bool false), (.bool false)), (t6, t6)] [] [] (k1 t9 w))
  (bI .eql .i64 t6 (Value.int IntKind.i64 3) (fun t10 w =>
  cnd t10
  (sm [(t1, t1), ((Value.int IntKind.i64 0), (Value.int IntKind.i64 0)), ((Value.int IntKind.i64 0), (Value.int IntKind.i64 0)), ((.bool false), (.bool false)), (t6, t6)] [] [] (k1 t10 w))
  (bI .eql .i64 t6 (Value.int IntKind.i64 5) (fun t11 w =>
  cnd t11
  (sm [(t1, t1), ((Value.int IntKind.i64 0), (Value.int IntKind.i64 0)), ((Value.int IntKind.i64 0), (Value.int IntKind.i64 0)), ((.bool false), (.bool false)), (t6, t6)] [] [] (k1 t11 w))
  (bI .eql .i64 t6 (Value.int IntKind.i64 6) (fun t12 w =>
  cnd t12
  (sm [(t1, t1), ((Value.int IntKind.i64 0), (Value.int IntKind.i64 0)), ((Value.int IntKind.i64 0), (Value.int IntKind.i64 0)), ((.bool false), (.bool false)), (t6, t6)] [] [] (k1 t12 w))
  (bI .eql .i64 t6 (Value.int IntKind.i64 7) (fun t13 w =>
  cnd t13
  (sm [(t1, t1), ((Value.int IntKind.i64 0), (Value.int IntKind.i64 0)), ((Value.int IntKind.i64 0), (Value.int IntKind.i64 0)), ((.bool false), (.bool false)), (t6, t6)] [] [] (k1 t13 w))
  (bI .eql .i64 t6 (Value.int IntKind.i64 10) (fun t14 w =>
  sm [(t1, t1), ((Value.int IntKind.i64 0), (Value.int IntKind.i64 0)), ((Value.int IntKind.i64 0), (Value.int IntKind.i64 0)), ((.bool false), (.bool false)), (t6, t6)] [] [] (k1 t14 w)) w)) w)) w)) w)) w)) w)) w)) w) w) w
theorem e_code_Ins_effect (R : Ending → World → Prop) (a0 : Value) (w : World) : vcFn P tab 4000 Tryz.f56.ntmps (Tryz.f56.body.getD .skip) Tryz.f56.results.toList [a0] R w = d_code_Ins_effect R a0 w := by kernel_rfl
theorem t_code_Ins_effect (R : Ending → World → Prop) (a0 : Value) (w : World) (h : d_code_Ins_effect R a0 w) : Tr P F.code_Ins_effect [a0] w R :=
  fn_ok (fn := Tryz.f56) (c := Tryz.f56.body.getD .skip) (fuel := 4000) mixed tab_ok Tryz.func56 (by kernel_rfl) (by kernel_rfl) (Nat.le_of_ble_eq_true (by kernel_rfl)) (Eq.mpr (e_code_Ins_effect R a0 w) h)
/-- lapidary/tree.Args -/
def d_tree_Args (R : Ending → World → Prop) (a0 : Value) (w : World) : Prop :=
  rgS a0 (fun t7 w =>
  lp 1 [(Value.int IntKind.i64 0)] (fun r1 x3 w =>
  nxS t7 (fun t8 w =>
  ex t8 0 (fun t9 w =>
  cnd t9
  (ex t8 2 (fun t10 w =>
  bI .eql .i32 t10 (Value.int IntKind.i32 58) (fun t12 w =>
  cnd t12
  (bI .add .i64 x3 (Value.int IntKind.i64 1) (fun t14 w =>
  sm [(a0, a0), ((Value.int IntKind.i64 0), (Value.int IntKind.i64 0)), (t7, t7)] [] [] (r1 [t14] w)) w)
  (sm [(a0, a0), ((Value.int IntKind.i64 0), (Value.int IntKind.i64 0)), (t7, t7)] [] [] (r1 [x3] w))) w) w)
  (cl P F.lex_PlainName [a0] (fun t17 w =>
  cnd t17
  (R (.returned (Value.int IntKind.i64 0)) w)
  (bS .eql a0 (Value.string { data := #[] }) (fun t20 w =>
  cnd t20
  (R (.returned x3) w)
  (slS a0 none (some (Value.int IntKind.i64 1)) (fun t23 w =>
  cl P F.lex_PlainName [t23] (fun t24 w =>
  cnd t24
  (R (.returned x3) w)
  (R (.returned (Value.int IntKind.i64 1)) w)) (fun ch w => R (.panicked ch) w) w) w)) w)) (fun ch w => R (.panicked ch) w) w)) w) w) w) w
theorem e_tree_Args (R : Ending → World → Prop) (a0 : Value) (w : World) : vcFn P tab 4000 Tryz.f57.ntmps (Tryz.f57.body.getD .skip) Tryz.f57.results.toList [a0] R w = d_tree_Args R a0 w := by kernel_rfl
theorem t_tree_Args (R : Ending → World → Prop) (a0 : Value) (w : World) (h : d_tree_Args R a0 w) : Tr P F.tree_Args [a0] w R :=
  fn_ok (fn := Tryz.f57) (c := Tryz.f57.body.getD .skip) (fuel := 4000) mixed tab_ok Tryz.func57 (by kernel_rfl) (by kernel_rfl) (Nat.le_of_ble_eq_true (by kernel_rfl)) (Eq.mpr (e_tree_Args R a0 w) h)
/-- lapidary/lapidaryref07.PlainName -/
def d_ref07_PlainName (R : Ending → World → Prop) (a0 : Value) (w : World) : Prop :=
  lnS a0 (fun t4 w =>
  bI .gtr .i64 t4 (Value.int IntKind.i64 0) (fun t5 w =>
  cnd t5
  (cl P F.ref07_name [a0, (Value.int IntKind.i64 0)] (fun t8 w =>
  lnS a0 (fun t10 w =>
  bI .eql .i64 t8 t10 (fun t11 w =>
  R (.returned t11) w) w) w) (fun ch w => R (.panicked ch) w) w)
  (R (.returned (.bool false)) w)) w) w
theorem e_ref07_PlainName (R : Ending → World → Prop) (a0 : Value) (w : World) : vcFn P tab 4000 Tryz.f58.ntmps (Tryz.f58.body.getD .skip) Tryz.f58.results.toList [a0] R w = d_ref07_PlainName R a0 w := by kernel_rfl
theorem t_ref07_PlainName (R : Ending → World → Prop) (a0 : Value) (w : World) (h : d_ref07_PlainName R a0 w) : Tr P F.ref07_PlainName [a0] w R :=
  fn_ok (fn := Tryz.f58) (c := Tryz.f58.body.getD .skip) (fuel := 4000) mixed tab_ok Tryz.func58 (by kernel_rfl) (by kernel_rfl) (Nat.le_of_ble_eq_true (by kernel_rfl)) (Eq.mpr (e_ref07_PlainName R a0 w) h)
/-- (*lapidary/lex.reader).skip -/
def d_lex_reader_skip (R : Ending → World → Prop) (a0 a1 : Value) (w : World) : Prop :=
  lp 0 [] (fun r1 w =>
  cl P F.lex_reader_more [a0, a1] (fun t6 w =>
  cnd t6
  (nc a0 (fun t8 w =>
  fa 1 t8 (fun t9 w =>
  ld t9 (fun t10 w =>
  bI .add .i64 t10 (Value.int IntKind.i64 1) (fun t11 w =>
  nc a0 (fun t12 w =>
  fa 1 t12 (fun t13 w =>
  st 1 t13 t11 (fun w =>
  sm [(a0, a0), (a1, a1)] [] [] (r1 [] w)) w) w) w) w) w) w) w)
  (R (.returned (.tuple #[])) w)) (fun ch w => R (.panicked ch) w) w) w
theorem e_lex_reader_skip (R : Ending → World → Prop) (a0 a1 : Value) (w : World) : vcFn P tab 4000 Tryz.f59.ntmps (Tryz.f59.body.getD .skip) Tryz.f59.results.toList [a0, a1] R w = d_lex_reader_skip R a0 a1 w := by kernel_rfl
theorem t_lex_reader_skip (R : Ending → World → Prop) (a0 a1 : Value) (w : World) (h : d_lex_reader_skip R a0 a1 w) : Tr P F.lex_reader_skip [a0, a1] w R :=
  fn_ok (fn := Tryz.f59) (c := Tryz.f59.body.getD .skip) (fuel := 4000) mixed tab_ok Tryz.func59 (by kernel_rfl) (by kernel_rfl) (Nat.le_of_ble_eq_true (by kernel_rfl)) (Eq.mpr (e_lex_reader_skip R a0 a1 w) h)
/-- lapidary/lex.Read$1 -/
def d_lex_Read_1 (R : Ending → World → Prop) (a0 : Value) (w : World) : Prop :=
  cl P F.lex_place [a0, (Value.string { data := #[32, 9, 10, 13] })] (fun t4 w =>
  bI .geq .i64 t4 (Value.int IntKind.i64 0) (fun t5 w =>
  R (.returned t5) w) w) (fun ch w => R (.panicked ch) w) w
theorem e_lex_Read_1 (R : Ending → World → Prop) (a0 : Value) (w : World) : vcFn P tab 4000 Tryz.f60.ntmps (Tryz.f60.body.getD .skip) Tryz.f60.results.toList [a0] R w = d_lex_Read_1 R a0 w := by kernel_rfl
theorem t_lex_Read_1 (R : Ending → World → Prop) (a0 : Value) (w : World) (h : d_lex_Read_1 R a0 w) : Tr P F.lex_Read_1 [a0] w R :=
  fn_ok (fn := Tryz.f60) (c := Tryz.f60.body.getD .skip) (fuel := 4000) mixed tab_ok Tryz.func60 (by kernel_rfl) (by kernel_rfl) (Nat.le_of_ble_eq_true (by kernel_rfl)) (Eq.mpr (e_lex_Read_1 R a0 w) h)
/-- lapidary/lex.place -/
def d_lex_place (R : Ending → World → Prop) (a0 a1 : Value) (w : World) : Prop :=
  rgS a1 (fun t8 w =>
  lp 1 [(Value.int IntKind.i64 0)] (fun r1 x4 w =>
  nxS t8 (fun t9 w =>
  ex t9 0 (fun t10 w =>
  cnd t10
  (ex t9 1 (fun t11 w =>
  ex t9 2 (fun t12 w =>
  cI .u8 t12 (fun t14 w =>
  bI .eql .u8 t14 a0 (fun t16 w =>
  cnd t16
  (R (.returned t11) w)
  (sm [(a0, a0), (t8, t8)] [] [] (r1 [x4] w))) w) w) w) w)
  (R (.returned (Value.int IntKind.i64 (-1))) w)) w) w) w) w
theorem e_lex_place (R : Ending → World → Prop) (a0 a1 : Value) (w : World) : vcFn P tab 4000 Tryz.f61.ntmps (Tryz.f61.body.getD .skip) Tryz.f61.results.toList [a0, a1] R w = d_lex_place R a0 a1 w := by kernel_rfl
theorem t_lex_place (R : Ending → World → Prop) (a0 a1 : Value) (w : World) (h : d_lex_place R a0 a1 w) : Tr P F.lex_place [a0, a1] w R :=
  fn_ok (fn := Tryz.f61) (c := Tryz.f61.body.getD .skip) (fuel := 4000) mixed tab_ok Tryz.func61 (by kernel_rfl) (by kernel_rfl) (Nat.le_of_ble_eq_true (by kernel_rfl)) (Eq.mpr (e_lex_place R a0 a1 w) h)
/-- strings.IndexByte -/
def d_strings_IndexByte (R : Ending → World → Prop) (a0 a1 : Value) (w : World) : Prop :=
  cl P F.internal_stringslite_IndexByte [a0, a1] (fun t7 w =>
  R (.returned t7) w) (fun ch w => R (.panicked ch) w) w
theorem e_strings_IndexByte (R : Ending → World → Prop) (a0 a1 : Value) (w : World) : vcFn P tab 4000 Tryz.f62.ntmps (Tryz.f62.body.getD .skip) Tryz.f62.results.toList [a0, a1] R w = d_strings_IndexByte R a0 a1 w := by kernel_rfl
theorem t_strings_IndexByte (R : Ending → World → Prop) (a0 a1 : Value) (w : World) (h : d_strings_IndexByte R a0 a1 w) : Tr P F.strings_IndexByte [a0, a1] w R :=
  fn_ok (fn := Tryz.f62) (c := Tryz.f62.body.getD .skip) (fuel := 4000) mixed tab_ok Tryz.func62 (by kernel_rfl) (by kernel_rfl) (Nat.le_of_ble_eq_true (by kernel_rfl)) (Eq.mpr (e_strings_IndexByte R a0 a1 w) h)
/-- (*lapidary/lex.reader).word -/
def d_lex_reader_word (R : Ending → World → Prop) (a0 : Value) (w : World) : Prop :=
  al [.int .i64 0, .string ⟨#[]⟩, .int .i64 0] 112 (fun t2 w =>
  nc a0 (fun t10 w =>
  fa 1 t10 (fun t11 w =>
  ld t11 (fun t12 w =>
  bd [.int .i64 0, .string ⟨#[]⟩, .int .i64 0] [(2, 1, t12)] (fun t13 w =>
  al [.int .i64 0, .string ⟨#[]⟩, .int .i64 0] 112 (fun t4 w =>
  st 3 t4 t13 (fun w =>
  jn 2 (fun x3 x5 w =>
  drw w (fun w =>
  nc a0 (fun t155 w =>
  fa 0 t155 (fun t156 w =>
  ld t156 (fun t157 w =>
  fa 2 t4 (fun t158 w =>
  ld t158 (fun t159 w =>
  nc a0 (fun t161 w =>
  fa 1 t161 (fun t162 w =>
  ld t162 (fun t163 w =>
  slS t157 (some t159) (some t163) (fun t164 w =>
  fa 1 t4 (fun t165 w =>
  st 1 t165 t164 (fun w =>
  ldn 3 t4 (fun t166 w =>
  st 3 t2 t166 (fun w =>
  ldn 3 t2 (fun r0 w =>
  R (.returned (.tuple #[r0, x5])) w) w) w) w) w) w) w) w) w) w) w) w) w) w) w)) (fun k1 =>
  drw w (fun w =>
  nc a0 (fun t15 w =>
  fa 0 t15 (fun t16 w =>
  ld t16 (fun t17 w =>
  nc a0 (fun t19 w =>
  fa 1 t19 (fun t20 w =>
  ld t20 (fun t21 w =>
  ix t17 t21 (fun t22 w =>
  cl P F.lex_letter [t22] (fun t39 w =>
  cnd t39
  (cl P F.lex_reader_name [a0] (fun t41 w =>
  fa 0 t4 (fun t42 w =>
  st 1 t42 (Value.int IntKind.i64 1) (fun w =>
  cl P F.lex_reader_colon [a0] (fun t44 w =>
  cnd t44
  (fa 0 t4 (fun t45 w =>
  st 1 t45 (Value.int IntKind.i64 2) (fun w =>
  nc a0 (fun t47 w =>
  fa 1 t47 (fun t48 w =>
  ld t48 (fun t49 w =>
  bI .add .i64 t49 (Value.int IntKind.i64 1) (fun t50 w =>
  nc a0 (fun t51 w =>
  fa 1 t51 (fun t52 w =>
  st 1 t52 t50 (fun w =>
  sm [(a0, a0), (t2, t2), (t4, t4)] [] [] (k1 (.bool false) (.bool true) w)) w) w) w) w) w) w) w) w) w)
  (sm [(a0, a0), (t2, t2), (t4, t4)] [] [] (k1 (.bool false) (.bool true) w))) (fun ch w => R (.panicked ch) w) w) w) w) (fun ch w => R (.panicked ch) w) w)
  (cl P F.lex_digit [t22] (fun t55 w =>
  cnd t55
  (fa 0 t4 (fun t56 w =>
  st 1 t56 (Value.int IntKind.i64 4) (fun w =>
  cl P F.lex_reader_skip [a0, (.func (.func F.lex_digit) #[] #[])] (fun t58 w =>
  drw w (fun w =>
  (nc a0 (fun t61 w =>
  fa 0 t61 (fun t62 w =>
  ld t62 (fun t63 w =>
  fa 2 t4 (fun t64 w =>
  ld t64 (fun t65 w =>
  nc a0 (fun t67 w =>
  fa 1 t67 (fun t68 w =>
  ld t68 (fun t69 w =>
  slS t63 (some t65) (some t69) (fun t70 w =>
  cl P F.whole_Read [t70] (fun t71 w =>
  ex t71 0 (fun t72 w =>
  ex t71 1 (fun t73 w =>
  al [.bool false, .slice none 0 0] 178 (fun t7 w =>
  st 2 t7 t72 (fun w =>
  bI .eql .i64 t73 (Value.int IntKind.i64 0) (fun t75 w =>
  sm [(a0, a0), (t2, t2), (t4, t4)] [] [] (k1 (.bool false) t75 w)) w) w) w) w) w) (fun ch w => R (.panicked ch) w) w) w) w) w) w) w) w) w) w) w) ∧
  (nc a0 (fun t61 w =>
  fa 0 t61 (fun t62 w =>
  ld t62 (fun t63 w =>
  fa 2 t4 (fun t64 w =>
  ld t64 (fun t65 w =>
  nc a0 (fun t67 w =>
  fa 1 t67 (fun t68 w =>
  ld t68 (fun t69 w =>
  slS t63 (some t65) (some t69) (fun t70 w =>
  al [.bool false, .slice none 0 0] 178 (fun t7 w =>
  rk false t68 t69
  (rk false t64 t65
  (rk false t62 t63
  (cl P F.whole_Read [t70] (fun t71 w =>
  ex t71 0 (fun t72 w =>
  ex t71 1 (fun t73 w =>
  st 2 t7 t72 (fun w =>
  bI .eql .i64 t73 (Value.int IntKind.i64 0) (fun t75 w =>
  sm [(a0, a0), (t2, t2), (t4, t4)] [] [] (k1 (.bool false) t75 w)) w) w) w) w) (fun ch w => R (.panicked ch) w) w) w) w) w) w) w) w) w) w) w) w) w) w) w))) (fun ch w => R (.panicked ch) w) w) w) w)
  (bI .eql .u8 t22 (Value.int IntKind.u8 39) (fun t78 w =>
  cnd t78
  (fa 0 t4 (fun t79 w =>
  st 1 t79 (Value.int IntKind.i64 5) (fun w =>
  cl P F.lex_reader_quoted [a0] (fun t82 w =>
  ex t82 0 (fun t83 w =>
  ex t82 1 (fun t84 w =>
  fa 1 t4 (fun t85 w =>
  st 1 t85 t83 (fun w =>
  ldn 3 t4 (fun t86 w =>
  st 3 t2 t86 (fun w =>
  ldn 3 t2 (fun r0 w =>
  R (.returned (.tuple #[r0, t84])) w) w) w) w) w) w) w) w) (fun ch w => R (.panicked ch) w) w) w) w)
  (jn 1 (fun x88 w =>
  cnd x88
  (fa 0 t4 (fun t96 w =>
  st 1 t96 (Value.int IntKind.i64 17) (fun w =>
  nc a0 (fun t98 w =>
  fa 1 t98 (fun t99 w =>
  ld t99 (fun t100 w =>
  bI .add .i64 t100 (Value.int IntKind.i64 2) (fun t101 w =>
  nc a0 (fun t102 w =>
  fa 1 t102 (fun t103 w =>
  st 1 t103 t101 (fun w =>
  sm [(a0, a0), (t2, t2), (t4, t4)] [] [] (k1 (.bool false) (.bool true) w)) w) w) w) w) w) w) w) w) w)
  (bI .eql .u8 t22 (Value.int IntKind.u8 35) (fun t106 w =>
  cnd t106
  (fa 0 t4 (fun t107 w =>
  st 1 t107 (Value.int IntKind.i64 6) (fun w =>
  nc a0 (fun t109 w =>
  fa 1 t109 (fun t110 w =>
  ld t110 (fun t111 w =>
  bI .add .i64 t111 (Value.int IntKind.i64 1) (fun t112 w =>
  nc a0 (fun t113 w =>
  fa 1 t113 (fun t114 w =>
  st 1 t114 t112 (fun w =>
  cl P F.lex_reader_symbol [a0] (fun t117 w =>
  ex t117 0 (fun t118 w =>
  ex t117 1 (fun t119 w =>
  fa 1 t4 (fun t120 w =>
  st 1 t120 t118 (fun w =>
  ldn 3 t4 (fun t121 w =>
  st 3 t2 t121 (fun w =>
  ldn 3 t2 (fun r0 w =>
  R (.returned (.tuple #[r0, t119])) w) w) w) w) w) w) w) w) (fun ch w => R (.panicked ch) w) w) w) w) w) w) w) w) w) w) w)
  (jn 1 (fun x123 w =>
  cnd x123
  (fa 0 t4 (fun t131 w =>
  st 1 t131 (Value.int IntKind.i64 7) (fun w =>
  nc a0 (fun t133 w =>
  fa 1 t133 (fun t134 w =>
  ld t134 (fun t135 w =>
  bI .add .i64 t135 (Value.int IntKind.i64 2) (fun t136 w =>
  nc a0 (fun t137 w =>
  fa 1 t137 (fun t138 w =>
  st 1 t138 t136 (fun w =>
  sm [(a0, a0), (t2, t2), (t4, t4)] [] [] (k1 (.bool false) (.bool true) w)) w) w) w) w) w) w) w) w) w)
  (bI .eql .u8 t22 (Value.int IntKind.u8 58) (fun t141 w =>
  cnd t141
  (fa 0 t4 (fun t142 w =>
  st 1 t142 (Value.int IntKind.i64 16) (fun w =>
  nc a0 (fun t144 w =>
  fa 1 t144 (fun t145 w =>
  ld t145 (fun t146 w =>
  bI .add .i64 t146 (Value.int IntKind.i64 1) (fun t147 w =>
  nc a0 (fun t148 w =>
  fa 1 t148 (fun t149 w =>
  st 1 t149 t147 (fun w =>
  sm [(a0, a0), (t2, t2), (t4, t4)] [] [] (k1 (.bool false) (.bool true) w)) w) w) w) w) w) w) w) w) w)
  (cl P F.lex_reader_sign [a0] (fun t152 w =>
  cnd t152
  (fa 0 t4 (fun t153 w =>
  st 1 t153 (Value.int IntKind.i64 3) (fun w =>
  sm [(a0, a0), (t2, t2), (t4, t4)] [] [] (k1 (.bool false) (.bool true) w)) w) w)
  (cl P F.lex_place [t22, (Value.string { data := #[40, 41, 91, 93, 124, 94, 46, 59] })] (fun t24 w =>
  bI .add .i64 (Value.int IntKind.i64 8) t24 (fun t25 w =>
  fa 0 t4 (fun t26 w =>
  st 1 t26 t25 (fun w =>
  fa 0 t4 (fun t27 w =>
  ld t27 (fun t28 w =>
  bI .geq .i64 t28 (Value.int IntKind.i64 8) (fun t29 w =>
  nc a0 (fun t31 w =>
  fa 1 t31 (fun t32 w =>
  ld t32 (fun t33 w =>
  bI .add .i64 t33 (Value.int IntKind.i64 1) (fun t34 w =>
  nc a0 (fun t35 w =>
  fa 1 t35 (fun t36 w =>
  st 1 t36 t34 (fun w =>
  sm [(a0, a0), (t2, t2), (t4, t4)] [] [] (k1 (.bool false) t29 w)) w) w) w) w) w) w) w) w) w) w) w) w) w) (fun ch w => R (.panicked ch) w) w)) (fun ch w => R (.panicked ch) w) w)) w)) (fun k3 =>
  bI .eql .u8 t22 (Value.int IntKind.u8 58) (fun t125 w =>
  cnd t125
  (cl P F.lex_reader_peek [a0, (Value.int IntKind.i64 1)] (fun t128 w =>
  bI .eql .u8 t128 (Value.int IntKind.u8 61) (fun t129 w =>
  sm [(a0, a0), (t2, t2), ((.bool false), (.bool false)), (t4, t4), ((.bool true), (.bool true)), (t22, t22)] [] [] (k3 t129 w)) w) (fun ch w => R (.panicked ch) w) w)
  (sm [(a0, a0), (t2, t2), ((.bool false), (.bool false)), (t4, t4), ((.bool true), (.bool true)), (t22, t22)] [] [] (k3 (.bool false) w))) w))) w)) (fun k2 =>
  bI .eql .u8 t22 (Value.int IntKind.u8 35) (fun t90 w =>
  cnd t90
  (cl P F.lex_reader_peek [a0, (Value.int IntKind.i64 1)] (fun t93 w =>
  bI .eql .u8 t93 (Value.int IntKind.u8 40) (fun t94 w =>
  sm [(a0, a0), (t2, t2), ((.bool false), (.bool false)), (t4, t4), ((.bool true), (.bool true)), (t22, t22)] [] [] (k2 t94 w)) w) (fun ch w => R (.panicked ch) w) w)
  (sm [(a0, a0), (t2, t2), ((.bool false), (.bool false)), (t4, t4), ((.bool true), (.bool true)), (t22, t22)] [] [] (k2 (.bool false) w))) w))) w)) (fun ch w => R (.panicked ch) w) w)) (fun ch w => R (.panicked ch) w) w) w) w) w) w) w) w) w))) w) w) w) w) w) w) w
theorem e_lex_reader_word (R : Ending → World → Prop) (a0 : Value) (w : World) : vcFn P tab 4000 Tryz.f63.ntmps (Tryz.f63.body.getD .skip) Tryz.f63.results.toList [a0] R w = d_lex_reader_word R a0 w := by kernel_rfl
theorem t_lex_reader_word (R : Ending → World → Prop) (a0 : Value) (w : World) (h : d_lex_reader_word R a0 w) : Tr P F.lex_reader_word [a0] w R :=
  fn_ok (fn := Tryz.f63) (c := Tryz.f63.body.getD .skip) (fuel := 4000) mixed tab_ok Tryz.func63 (by kernel_rfl) (by kernel_rfl) (Nat.le_of_ble_eq_true (by kernel_rfl)) (Eq.mpr (e_lex_reader_word R a0 w) h)
/-- (*lapidary/tree.parser).statement -/
def d_tree_parser_statement (R : Ending → World → Prop) (a0 : Value) (w : World) : Prop :=
  al [.int .i64 0, .string ⟨#[]⟩, .int .i64 0, .int .i64 0, .slice none 0 0, .slice none 0 0] 50 (fun t2 w =>
  cl P F.tree_parser_kind [a0] (fun t6 w =>
  bI .neq .i64 t6 (Value.int IntKind.i64 13) (fun t7 w =>
  cnd t7
  (cl P F.tree_parser_expression [a0] (fun t9 w =>
  st 6 t2 t9 (fun w =>
  ldn 6 t2 (fun r0 w =>
  R (.returned (.tuple #[r0, (.bool false)])) w) w) w) (fun ch w => R (.panicked ch) w) w)
  (cl P F.tree_parser_take [a0] (fun t11 w =>
  fl false 1 2 t11 (fun t12 w =>
  bd [.int .i64 0, .string ⟨#[]⟩, .int .i64 0, .int .i64 0, .slice none 0 0, .slice none 0 0] [(0, 1, (Value.int IntKind.i64 11)), (2, 1, t12)] (fun t13 w =>
  al [.int .i64 0, .string ⟨#[]⟩, .int .i64 0, .int .i64 0, .slice none 0 0, .slice none 0 0] 50 (fun t4 w =>
  st 6 t4 t13 (fun w =>
  cl P F.tree_parser_expression [a0] (fun t15 w =>
  bs 50 [.int .i64 0, .string ⟨#[]⟩, .int .i64 0, .int .i64 0, .slice none 0 0, .slice none 0 0] 1 [(0, 6, t15)] (fun t16 w =>
  fa 5 t4 (fun t17 w =>
  st 1 t17 t16 (fun w =>
  ldn 6 t4 (fun t18 w =>
  st 6 t2 t18 (fun w =>
  ldn 6 t2 (fun r0 w =>
  R (.returned (.tuple #[r0, (.bool true)])) w) w) w) w) w) w) w) (fun ch w => R (.panicked ch) w) w) w) w) w) w) (fun ch w => R (.panicked ch) w) w)) w) (fun ch w => R (.panicked ch) w) w) w
theorem e_tree_parser_statement (R : Ending → World → Prop) (a0 : Value) (w : World) : vcFn P tab 4000 Tryz.f64.ntmps (Tryz.f64.body.getD .skip) Tryz.f64.results.toList [a0] R w = d_tree_parser_statement R a0 w := by kernel_rfl
theorem t_tree_parser_statement (R : Ending → World → Prop) (a0 : Value) (w : World) (h : d_tree_parser_statement R a0 w) : Tr P F.tree_parser_statement [a0] w R :=
  fn_ok (fn := Tryz.f64) (c := Tryz.f64.body.getD .skip) (fuel := 4000) mixed tab_ok Tryz.func64 (by kernel_rfl) (by kernel_rfl) (Nat.le_of_ble_eq_true (by kernel_rfl)) (Eq.mpr (e_tree_parser_statement R a0 w) h)
/-- (*lapidary/tree.parser).bad -/
def d_tree_parser_bad (R : Ending → World → Prop) (a0 a1 : Value) (w : World) : Prop :=
  nc a0 (fun t5 w =>
  fa 0 t5 (fun t6 w =>
  ld t6 (fun t7 w =>
  ia 3 t7 (Value.int IntKind.i64 0) (fun t8 w =>
  fa 2 t8 (fun t9 w =>
  ld t9 (fun t10 w =>
  bd [.int .i64 0, .int .i64 0] [(0, 1, t10), (1, 1, a1)] (fun t12 w =>
  pn (.iface 99 t12) (fun ch w => R (.panicked ch) w) w) w) w) w) w) w) w) w
theorem e_tree_parser_bad (R : Ending → World → Prop) (a0 a1 : Value) (w : World) : vcFn P tab 4000 Tryz.f65.ntmps (Tryz.f65.body.getD .skip) Tryz.f65.results.toList [a0, a1] R w = d_tree_parser_bad R a0 a1 w := by kernel_rfl
theorem t_tree_parser_bad (R : Ending → World → Prop) (a0 a1 : Value) (w : World) (h : d_tree_parser_bad R a0 a1 w) : Tr P F.tree_parser_bad [a0, a1] w R :=
  fn_ok (fn := Tryz.f65) (c := Tryz.f65.body.getD .skip) (fuel := 4000) mixed tab_ok Tryz.func65 (by kernel_rfl) (by kernel_rfl) (Nat.le_of_ble_eq_true (by kernel_rfl)) (Eq.mpr (e_tree_parser_bad R a0 a1 w) h)
/-- lapidary/scope.fixed -/
def d_scope_fixed (R : Ending → World → Prop) (a0 : Value) (w : World) : Prop :=
  al [.int .i64 0, .string ⟨#[]⟩, .int .i64 0, .int .i64 0, .int .i64 0, .bool false] 146 (fun t2 w =>
  bd [.int .i64 0, .string ⟨#[]⟩, .int .i64 0, .int .i64 0, .int .i64 0, .bool false] [(1, 1, a0)] (fun t6 w =>
  al [.int .i64 0, .string ⟨#[]⟩, .int .i64 0, .int .i64 0, .int .i64 0, .bool false] 146 (fun t4 w =>
  st 6 t4 t6 (fun w =>
  bS .eql a0 (Value.string { data := #[115, 101, 108, 102] }) (fun t10 w =>
  cnd t10
  (ldn 6 t4 (fun t25 w =>
  st 6 t2 t25 (fun w =>
  ldn 6 t2 (fun r0 w =>
  R (.returned (.tuple #[r0, (.bool true)])) w) w) w) w)
  (bS .eql a0 (Value.string { data := #[115, 117, 112, 101, 114] }) (fun t12 w =>
  cnd t12
  (fa 2 t4 (fun t13 w =>
  st 1 t13 (Value.int IntKind.i64 1) (fun w =>
  ldn 6 t4 (fun t25 w =>
  st 6 t2 t25 (fun w =>
  ldn 6 t2 (fun r0 w =>
  R (.returned (.tuple #[r0, (.bool true)])) w) w) w) w) w) w)
  (bS .eql a0 (Value.string { data := #[110, 105, 108] }) (fun t15 w =>
  cnd t15
  (fa 2 t4 (fun t16 w =>
  st 1 t16 (Value.int IntKind.i64 2) (fun w =>
  ldn 6 t4 (fun t25 w =>
  st 6 t2 t25 (fun w =>
  ldn 6 t2 (fun r0 w =>
  R (.returned (.tuple #[r0, (.bool true)])) w) w) w) w) w) w)
  (bS .eql a0 (Value.string { data := #[102, 97, 108, 115, 101] }) (fun t18 w =>
  cnd t18
  (fa 2 t4 (fun t19 w =>
  st 1 t19 (Value.int IntKind.i64 2) (fun w =>
  fa 4 t4 (fun t20 w =>
  st 1 t20 (Value.int IntKind.i64 1) (fun w =>
  ldn 6 t4 (fun t25 w =>
  st 6 t2 t25 (fun w =>
  ldn 6 t2 (fun r0 w =>
  R (.returned (.tuple #[r0, (.bool true)])) w) w) w) w) w) w) w) w)
  (bS .eql a0 (Value.string { data := #[116, 114, 117, 101] }) (fun t22 w =>
  cnd t22
  (fa 2 t4 (fun t23 w =>
  st 1 t23 (Value.int IntKind.i64 2) (fun w =>
  fa 4 t4 (fun t24 w =>
  st 1 t24 (Value.int IntKind.i64 2) (fun w =>
  ldn 6 t4 (fun t25 w =>
  st 6 t2 t25 (fun w =>
  ldn 6 t2 (fun r0 w =>
  R (.returned (.tuple #[r0, (.bool true)])) w) w) w) w) w) w) w) w)
  (ldn 6 t4 (fun t8 w =>
  st 6 t2 t8 (fun w =>
  ldn 6 t2 (fun r0 w =>
  R (.returned (.tuple #[r0, (.bool false)])) w) w) w) w)) w)) w)) w)) w)) w) w) w) w) w
theorem e_scope_fixed (R : Ending → World → Prop) (a0 : Value) (w : World) : vcFn P tab 4000 Tryz.f66.ntmps (Tryz.f66.body.getD .skip) Tryz.f66.results.toList [a0] R w = d_scope_fixed R a0 w := by kernel_rfl
theorem t_scope_fixed (R : Ending → World → Prop) (a0 : Value) (w : World) (h : d_scope_fixed R a0 w) : Tr P F.scope_fixed [a0] w R :=
  fn_ok (fn := Tryz.f66) (c := Tryz.f66.body.getD .skip) (fuel := 4000) mixed tab_ok Tryz.func66 (by kernel_rfl) (by kernel_rfl) (Nat.le_of_ble_eq_true (by kernel_rfl)) (Eq.mpr (e_scope_fixed R a0 w) h)
/-- slices.Contains[[]string,string] -/
def d_slices_Contains_string_string (R : Ending → World → Prop) (a0 a1 : Value) (w : World) : Prop :=
  cl P F.slices_Index_string_string [a0, a1] (fun t7 w =>
  bI .geq .i64 t7 (Value.int IntKind.i64 0) (fun t8 w =>
  R (.returned t8) w) w) (fun ch w => R (.panicked ch) w) w
theorem e_slices_Contains_string_string (R : Ending → World → Prop) (a0 a1 : Value) (w : World) : vcFn P tab 4000 Tryz.f67.ntmps (Tryz.f67.body.getD .skip) Tryz.f67.results.toList [a0, a1] R w = d_slices_Contains_string_string R a0 a1 w := by kernel_rfl
theorem t_slices_Contains_string_string (R : Ending → World → Prop) (a0 a1 : Value) (w : World) (h : d_slices_Contains_string_string R a0 a1 w) : Tr P F.slices_Contains_string_string [a0, a1] w R :=
  fn_ok (fn := Tryz.f67) (c := Tryz.f67.body.getD .skip) (fuel := 4000) mixed tab_ok Tryz.func67 (by kernel_rfl) (by kernel_rfl) (Nat.le_of_ble_eq_true (by kernel_rfl)) (Eq.mpr (e_slices_Contains_string_string R a0 a1 w) h)
/-- (*lapidary/scope.walk).part -/
def d_scope_walk_part (R : Ending → World → Prop) (a0 a1 a2 a3 : Value) (w : World) : Prop :=
  al a1.cells.toList 50 (fun t5 w =>
  jn 0 (fun w =>
  fa 5 t5 (fun t100 w =>
  ld t100 (fun t101 w =>
  lnL t101 (fun t102 w =>
  lp 1 [(Value.int IntKind.i64 0)] (fun r2 x103 w =>
  bI .lss .i64 x103 t102 (fun t104 w =>
  cnd t104
  (ia 6 t101 x103 (fun t106 w =>
  ldn 6 t106 (fun t107 w =>
  al [.int .i64 0, .string ⟨#[]⟩, .int .i64 0, .int .i64 0, .slice none 0 0, .slice none 0 0] 50 (fun t13 w =>
  st 6 t13 t107 (fun w =>
  ldn 6 t13 (fun t109 w =>
  bI .eql .i64 x103 (Value.int IntKind.i64 0) (fun t112 w =>
  cnd t112
  (fa 0 t5 (fun t114 w =>
  ld t114 (fun t115 w =>
  bI .eql .i64 t115 (Value.int IntKind.i64 7) (fun t116 w =>
  cnd t116
  (cl P F.scope_walk_part [a0, t109, a2, (.bool true)] (fun t123 w =>
  bI .add .i64 x103 (Value.int IntKind.i64 1) (fun t124 w =>
  sm [(a0, a0), (a2, a2), (t5, t5), (t101, t101), (t102, t102)] [] [] (r2 [t124] w)) w) (fun ch w => R (.panicked ch) w) w)
  (fa 0 t5 (fun t118 w =>
  ld t118 (fun t119 w =>
  bI .eql .i64 t119 (Value.int IntKind.i64 8) (fun t120 w =>
  cl P F.scope_walk_part [a0, t109, a2, t120] (fun t123 w =>
  bI .add .i64 x103 (Value.int IntKind.i64 1) (fun t124 w =>
  sm [(a0, a0), (a2, a2), (t5, t5), (t101, t101), (t102, t102)] [] [] (r2 [t124] w)) w) (fun ch w => R (.panicked ch) w) w) w) w) w)) w) w) w)
  (cl P F.scope_walk_part [a0, t109, a2, (.bool false)] (fun t123 w =>
  bI .add .i64 x103 (Value.int IntKind.i64 1) (fun t124 w =>
  sm [(a0, a0), (a2, a2), (t5, t5), (t101, t101), (t102, t102)] [] [] (r2 [t124] w)) w) (fun ch w => R (.panicked ch) w) w)) w) w) w) w) w) w)
  (R (.returned (.tuple #[])) w)) w) w) w) w) w) (fun k1 =>
  fa 0 t5 (fun t14 w =>
  ld t14 (fun t15 w =>
  bI .eql .i64 t15 (Value.int IntKind.i64 5) (fun t17 w =>
  cnd t17
  (fa 1 t5 (fun t20 w =>
  ld t20 (fun t21 w =>
  cl P F.scope_walk_find [a0, t21, a2] (fun t23 w =>
  ex t23 0 (fun t24 w =>
  ex t23 1 (fun t25 w =>
  al [.int .i64 0, .string ⟨#[]⟩, .int .i64 0, .int .i64 0, .int .i64 0, .bool false] 146 (fun t8 w =>
  st 6 t8 t24 (fun w =>
  jn 0 (fun w =>
  fa 2 t5 (fun t42 w =>
  ld t42 (fun t43 w =>
  fa 0 t8 (fun t44 w =>
  st 1 t44 t43 (fun w =>
  drw w (fun w =>
  nc a0 (fun t47 w =>
  fa 1 t47 (fun t48 w =>
  ld t48 (fun t49 w =>
  ldn 6 t8 (fun t50 w =>
  bs 146 [.int .i64 0, .string ⟨#[]⟩, .int .i64 0, .int .i64 0, .int .i64 0, .bool false] 1 [(0, 6, t50)] (fun t51 w =>
  rk false t48 t49
  (ap 146 6 56 [.int .i64 0, .string ⟨#[]⟩, .int .i64 0, .int .i64 0, .int .i64 0, .bool false] t49 t51 (fun t52 w =>
  nc a0 (fun t53 w =>
  fa 1 t53 (fun t54 w =>
  st 1 t54 t52 (fun w =>
  R (.returned (.tuple #[])) w) w) w) w) w) w) w) w) w) w) w)) w) w) w) w) (fun k3 =>
  jn 1 (fun x37 w =>
  cnd x37
  (fa 2 t5 (fun t38 w =>
  ld t38 (fun t39 w =>
  bd [.int .i64 0] [(0, 1, t39)] (fun t40 w =>
  pn (.iface 104 t40) (fun ch w => R (.panicked ch) w) w) w) w) w)
  (sm [(a0, a0), (a2, a2), (t5, t5), (t8, t8)] [] [] (k3 w))) (fun k4 =>
  fa 2 t8 (fun t26 w =>
  ld t26 (fun t27 w =>
  bI .eql .i64 t27 (Value.int IntKind.i64 (-1)) (fun t28 w =>
  cnd t28
  (sm [(a0, a0), (a2, a2), (t5, t5), (t8, t8)] [] [] (k4 (.bool true) w))
  (fa 2 t8 (fun t30 w =>
  ld t30 (fun t31 w =>
  bI .eql .i64 t31 (Value.int IntKind.i64 1) (fun t32 w =>
  cnd t32
  (uN a3 (fun t35 w =>
  sm [(a0, a0), (a2, a2), (t5, t5), (t8, t8)] [] [] (k4 t35 w)) w)
  (sm [(a0, a0), (a2, a2), (t5, t5), (t8, t8)] [] [] (k4 (.bool false) w))) w) w) w)) w) w) w))) w) w) w) w) (fun ch w => R (.panicked ch) w) w) w) w)
  (bI .eql .i64 t15 (Value.int IntKind.i64 6) (fun t56 w =>
  cnd t56
  (fa 1 t5 (fun t59 w =>
  ld t59 (fun t60 w =>
  cl P F.scope_walk_find [a0, t60, a2] (fun t62 w =>
  ex t62 0 (fun t63 w =>
  ex t62 1 (fun t64 w =>
  al [.int .i64 0, .string ⟨#[]⟩, .int .i64 0, .int .i64 0, .int .i64 0, .bool false] 146 (fun t10 w =>
  st 6 t10 t63 (fun w =>
  jn 0 (fun w =>
  fa 2 t5 (fun t80 w =>
  ld t80 (fun t81 w =>
  fa 0 t10 (fun t82 w =>
  st 1 t82 t81 (fun w =>
  fa 5 t10 (fun t83 w =>
  st 1 t83 (.bool true) (fun w =>
  drw w (fun w =>
  nc a0 (fun t86 w =>
  fa 1 t86 (fun t87 w =>
  ld t87 (fun t88 w =>
  ldn 6 t10 (fun t89 w =>
  bs 146 [.int .i64 0, .string ⟨#[]⟩, .int .i64 0, .int .i64 0, .int .i64 0, .bool false] 1 [(0, 6, t89)] (fun t90 w =>
  rk false t87 t88
  (ap 146 6 56 [.int .i64 0, .string ⟨#[]⟩, .int .i64 0, .int .i64 0, .int .i64 0, .bool false] t88 t90 (fun t91 w =>
  nc a0 (fun t92 w =>
  fa 1 t92 (fun t93 w =>
  st 1 t93 t91 (fun w =>
  sm [(a0, a0), (a2, a2), (t5, t5)] [] [] (k1 w)) w) w) w) w) w) w) w) w) w) w)) w) w) w) w) w) w) (fun k5 =>
  jn 1 (fun x75 w =>
  cnd x75
  (fa 2 t5 (fun t76 w =>
  ld t76 (fun t77 w =>
  bd [.int .i64 0] [(0, 1, t77)] (fun t78 w =>
  pn (.iface 104 t78) (fun ch w => R (.panicked ch) w) w) w) w) w)
  (sm [(a0, a0), (a2, a2), (t5, t5), (t10, t10)] [] [] (k5 w))) (fun k6 =>
  cnd t64
  (sm [(a0, a0), (a2, a2), (t5, t5), (t10, t10)] [] [] (k6 (.bool true) w))
  (fa 2 t10 (fun t67 w =>
  ld t67 (fun t68 w =>
  bI .neq .i64 t68 (Value.int IntKind.i64 3) (fun t69 w =>
  cnd t69
  (fa 2 t10 (fun t71 w =>
  ld t71 (fun t72 w =>
  bI .neq .i64 t72 (Value.int IntKind.i64 4) (fun t73 w =>
  sm [(a0, a0), (a2, a2), (t5, t5), (t10, t10)] [] [] (k6 t73 w)) w) w) w)
  (sm [(a0, a0), (a2, a2), (t5, t5), (t10, t10)] [] [] (k6 (.bool false) w))) w) w) w)))) w) w) w) w) (fun ch w => R (.panicked ch) w) w) w) w)
  (bI .eql .i64 t15 (Value.int IntKind.i64 10) (fun t95 w =>
  cnd t95
  (ldn 6 t5 (fun t97 w =>
  cl P F.scope_walk_unit [a0, t97, a2] (fun t99 w =>
  R (.returned (.tuple #[])) w) (fun ch w => R (.panicked ch) w) w) w)
  (sm [(a0, a0), (a2, a2), (t5, t5)] [] [] (k1 w))) w)) w)) w) w) w)) w
theorem e_scope_walk_part (R : Ending → World → Prop) (a0 a1 a2 a3 : Value) (w : World) : vcFn P tab 4000 Tryz.f68.ntmps (Tryz.f68.body.getD .skip) Tryz.f68.results.toList [a0, a1, a2, a3] R w = d_scope_walk_part R a0 a1 a2 a3 w := by kernel_rfl
theorem t_scope_walk_part (R : Ending → World → Prop) (a0 a1 a2 a3 : Value) (w : World) (h : d_scope_walk_part R a0 a1 a2 a3 w) : Tr P F.scope_walk_part [a0, a1, a2, a3] w R :=
  fn_ok (fn := Tryz.f68) (c := Tryz.f68.body.getD .skip) (fuel := 4000) mixed tab_ok Tryz.func68 (by kernel_rfl) (by kernel_rfl) (Nat.le_of_ble_eq_true (by kernel_rfl)) (Eq.mpr (e_scope_walk_part R a0 a1 a2 a3 w) h)
/-- lapidary/code.once -/
def d_code_once (R : Ending → World → Prop) (a0 a1 : Value) (w : World) : Prop :=
  nc a0 (fun t7 w =>
  ld t7 (fun t8 w =>
  cl P F.slices_Index_string_string [t8, a1] (fun t10 w =>
  bI .geq .i64 t10 (Value.int IntKind.i64 0) (fun t12 w =>
  cnd t12
  (R (.returned t10) w)
  (nc a0 (fun t16 w =>
  ld t16 (fun t17 w =>
  bs 9 [.string ⟨#[]⟩] 1 [(0, 1, a1)] (fun t19 w =>
  ap 9 1 16 [.string ⟨#[]⟩] t17 t19 (fun t20 w =>
  nc a0 (fun t21 w =>
  st 1 t21 t20 (fun w =>
  nc a0 (fun t23 w =>
  ld t23 (fun t24 w =>
  lnL t24 (fun t25 w =>
  bI .sub .i64 t25 (Value.int IntKind.i64 1) (fun t26 w =>
  R (.returned t26) w) w) w) w) w) w) w) w) w) w) w)) w) (fun ch w => R (.panicked ch) w) w) w) w
theorem e_code_once (R : Ending → World → Prop) (a0 a1 : Value) (w : World) : vcFn P tab 4000 Tryz.f69.ntmps (Tryz.f69.body.getD .skip) Tryz.f69.results.toList [a0, a1] R w = d_code_once R a0 a1 w := by kernel_rfl
theorem t_code_once (R : Ending → World → Prop) (a0 a1 : Value) (w : World) (h : d_code_once R a0 a1 w) : Tr P F.code_once [a0, a1] w R :=
  fn_ok (fn := Tryz.f69) (c := Tryz.f69.body.getD .skip) (fuel := 4000) mixed tab_ok Tryz.func69 (by kernel_rfl) (by kernel_rfl) (Nat.le_of_ble_eq_true (by kernel_rfl)) (Eq.mpr (e_code_once R a0 a1 w) h)
/-- lapidary/tree.Text -/
def d_tree_Text (R : Ending → World → Prop) (a0 : Value) (w : World) : Prop :=
  al a0.cells.toList 50 (fun t1 w =>
  al [.pointer none, .slice none 0 0] 191 (fun t3 w =>
  ldn 6 t1 (fun t4 w =>
  cl P F.tree_writer_node [t3, t4] (fun t5 w =>
  fa 0 t3 (fun t6 w =>
  cl P F.strings_Builder_String [t6] (fun t7 w =>
  R (.returned t7) w) (fun ch w => R (.panicked ch) w) w) w) (fun ch w => R (.panicked ch) w) w) w) w) w
theorem e_tree_Text (R : Ending → World → Prop) (a0 : Value) (w : World) : vcFn P tab 4000 Tryz.f70.ntmps (Tryz.f70.body.getD .skip) Tryz.f70.results.toList [a0] R w = d_tree_Text R a0 w := by kernel_rfl
theorem t_tree_Text (R : Ending → World → Prop) (a0 : Value) (w : World) (h : d_tree_Text R a0 w) : Tr P F.tree_Text [a0] w R :=
  fn_ok (fn := Tryz.f70) (c := Tryz.f70.body.getD .skip) (fuel := 4000) mixed tab_ok Tryz.func70 (by kernel_rfl) (by kernel_rfl) (Nat.le_of_ble_eq_true (by kernel_rfl)) (Eq.mpr (e_tree_Text R a0 w) h)
/-- (*lapidary/code.maker).name -/
def d_code_maker_name (R : Ending → World → Prop) (a0 a1 : Value) (w : World) : Prop :=
  cl P F.code_maker_use [a0] (fun t6 w =>
  al [.int .i64 0, .string ⟨#[]⟩, .int .i64 0, .int .i64 0, .int .i64 0, .bool false] 146 (fun t4 w =>
  st 6 t4 t6 (fun w =>
  fa 2 t4 (fun t7 w =>
  ld t7 (fun t8 w =>
  bI .eql .i64 t8 (Value.int IntKind.i64 2) (fun t13 w =>
  cnd t13
  (fa 4 t4 (fun t16 w =>
  ld t16 (fun t17 w =>
  cl P F.code_maker_add [a0, a1, (Value.int IntKind.i64 7), t17, (Value.int IntKind.i64 0)] (fun t18 w =>
  R (.returned (.tuple #[])) w) (fun ch w => R (.panicked ch) w) w) w) w)
  (bI .eql .i64 t8 (Value.int IntKind.i64 3) (fun t20 w =>
  cnd t20
  (fa 3 t4 (fun t23 w =>
  ld t23 (fun t24 w =>
  fa 4 t4 (fun t25 w =>
  ld t25 (fun t26 w =>
  cl P F.code_maker_add [a0, a1, (Value.int IntKind.i64 1), t24, t26] (fun t27 w =>
  R (.returned (.tuple #[])) w) (fun ch w => R (.panicked ch) w) w) w) w) w) w)
  (bI .eql .i64 t8 (Value.int IntKind.i64 4) (fun t29 w =>
  cnd t29
  (fa 4 t4 (fun t32 w =>
  ld t32 (fun t33 w =>
  cl P F.code_maker_add [a0, a1, (Value.int IntKind.i64 3), t33, (Value.int IntKind.i64 0)] (fun t34 w =>
  R (.returned (.tuple #[])) w) (fun ch w => R (.panicked ch) w) w) w) w)
  (bI .eql .i64 t8 (Value.int IntKind.i64 5) (fun t36 w =>
  cnd t36
  (drw w (fun w =>
  nc a0 (fun t40 w =>
  fa 0 t40 (fun t41 w =>
  fa 3 t41 (fun t42 w =>
  fa 1 t4 (fun t43 w =>
  ld t43 (fun t44 w =>
  cl P F.code_once [t42, t44] (fun t45 w =>
  cl P F.code_maker_add [a0, a1, (Value.int IntKind.i64 5), t45, (Value.int IntKind.i64 0)] (fun t46 w =>
  R (.returned (.tuple #[])) w) (fun ch w => R (.panicked ch) w) w) (fun ch w => R (.panicked ch) w) w) w) w) w) w) w))
  (cl P F.code_maker_add [a0, a1, (Value.int IntKind.i64 6), (Value.int IntKind.i64 0), (Value.int IntKind.i64 0)] (fun t11 w =>
  R (.returned (.tuple #[])) w) (fun ch w => R (.panicked ch) w) w)) w)) w)) w)) w) w) w) w) w) (fun ch w => R (.panicked ch) w) w
theorem e_code_maker_name (R : Ending → World → Prop) (a0 a1 : Value) (w : World) : vcFn P tab 4000 Tryz.f71.ntmps (Tryz.f71.body.getD .skip) Tryz.f71.results.toList [a0, a1] R w = d_code_maker_name R a0 a1 w := by kernel_rfl
theorem t_code_maker_name (R : Ending → World → Prop) (a0 a1 : Value) (w : World) (h : d_code_maker_name R a0 a1 w) : Tr P F.code_maker_name [a0, a1] w R :=
  fn_ok (fn := Tryz.f71) (c := Tryz.f71.body.getD .skip) (fuel := 4000) mixed tab_ok Tryz.func71 (by kernel_rfl) (by kernel_rfl) (Nat.le_of_ble_eq_true (by kernel_rfl)) (Eq.mpr (e_code_maker_name R a0 a1 w) h)
/-- (*lapidary/code.maker).use -/
def d_code_maker_use (R : Ending → World → Prop) (a0 : Value) (w : World) : Prop :=
  al [.int .i64 0, .string ⟨#[]⟩, .int .i64 0, .int .i64 0, .int .i64 0, .bool false] 146 (fun t2 w =>
  nc a0 (fun t5 w =>
  fa 5 t5 (fun t6 w =>
  ld t6 (fun t7 w =>
  ia 6 t7 (Value.int IntKind.i64 0) (fun t8 w =>
  ldn 6 t8 (fun t9 w =>
  al [.int .i64 0, .string ⟨#[]⟩, .int .i64 0, .int .i64 0, .int .i64 0, .bool false] 146 (fun t3 w =>
  st 6 t3 t9 (fun w =>
  nc a0 (fun t12 w =>
  fa 5 t12 (fun t13 w =>
  ld t13 (fun t14 w =>
  slL 6 t14 (some (Value.int IntKind.i64 1)) none none (fun t15 w =>
  nc a0 (fun t16 w =>
  fa 5 t16 (fun t17 w =>
  st 1 t17 t15 (fun w =>
  ldn 6 t3 (fun t18 w =>
  st 6 t2 t18 (fun w =>
  ldn 6 t2 (fun r0 w =>
  R (.returned r0) w) w) w) w) w) w) w) w) w) w) w) w) w) w) w) w) w) w) w
theorem e_code_maker_use (R : Ending → World → Prop) (a0 : Value) (w : World) : vcFn P tab 4000 Tryz.f72.ntmps (Tryz.f72.body.getD .skip) Tryz.f72.results.toList [a0] R w = d_code_maker_use R a0 w := by kernel_rfl
theorem t_code_maker_use (R : Ending → World → Prop) (a0 : Value) (w : World) (h : d_code_maker_use R a0 w) : Tr P F.code_maker_use [a0] w R :=
  fn_ok (fn := Tryz.f72) (c := Tryz.f72.body.getD .skip) (fuel := 4000) mixed tab_ok Tryz.func72 (by kernel_rfl) (by kernel_rfl) (Nat.le_of_ble_eq_true (by kernel_rfl)) (Eq.mpr (e_code_maker_use R a0 w) h)
/-- (*lapidary/code.maker).send -/
def d_code_maker_send (R : Ending → World → Prop) (a0 a1 a2 a3 a4 : Value) (w : World) : Prop :=
  al a2.cells.toList 50 (fun t7 w =>
  lnL a4 (fun t14 w =>
  lp 1 [(Value.int IntKind.i64 0)] (fun r1 x15 w =>
  bI .lss .i64 x15 t14 (fun t16 w =>
  cnd t16
  (ia 6 a4 x15 (fun t17 w =>
  ldn 6 t17 (fun t18 w =>
  al [.int .i64 0, .string ⟨#[]⟩, .int .i64 0, .int .i64 0, .slice none 0 0, .slice none 0 0] 50 (fun t11 w =>
  st 6 t11 t18 (fun w =>
  ldn 6 t11 (fun t21 w =>
  cl P F.code_maker_part [a0, a1, t21] (fun t22 w =>
  bI .add .i64 x15 (Value.int IntKind.i64 1) (fun t23 w =>
  sm [(a0, a0), (a1, a1), (a3, a3), (a4, a4), (t7, t7), (a4, a4), (t14, t14)] [] [] (r1 [t23] w)) w) (fun ch w => R (.panicked ch) w) w) w) w) w) w) w)
  (jn 1 (fun x12 w =>
  nc a0 (fun t36 w =>
  fa 0 t36 (fun t37 w =>
  fa 4 t37 (fun t38 w =>
  cl P F.code_once [t38, a3] (fun t40 w =>
  lnL a4 (fun t42 w =>
  cl P F.code_maker_add [a0, a1, x12, t40, t42] (fun t43 w =>
  R (.returned (.tuple #[])) w) (fun ch w => R (.panicked ch) w) w) w) (fun ch w => R (.panicked ch) w) w) w) w) w) (fun k2 =>
  fa 0 t7 (fun t24 w =>
  ld t24 (fun t25 w =>
  bI .eql .i64 t25 (Value.int IntKind.i64 5) (fun t26 w =>
  cnd t26
  (fa 1 t7 (fun t28 w =>
  ld t28 (fun t29 w =>
  bS .eql t29 (Value.string { data := #[115, 117, 112, 101, 114] }) (fun t30 w =>
  cnd t30
  (sm [(a0, a0), (a1, a1), (a3, a3), (a4, a4)] [] [] (k2 (Value.int IntKind.i64 9) w))
  (sm [(a0, a0), (a1, a1), (a3, a3), (a4, a4)] [] [] (k2 (Value.int IntKind.i64 8) w))) w) w) w)
  (sm [(a0, a0), (a1, a1), (a3, a3), (a4, a4)] [] [] (k2 (Value.int IntKind.i64 8) w))) w) w) w))) w) w) w) w
theorem e_code_maker_send (R : Ending → World → Prop) (a0 a1 a2 a3 a4 : Value) (w : World) : vcFn P tab 4000 Tryz.f73.ntmps (Tryz.f73.body.getD .skip) Tryz.f73.results.toList [a0, a1, a2, a3, a4] R w = d_code_maker_send R a0 a1 a2 a3 a4 w := by kernel_rfl
theorem t_code_maker_send (R : Ending → World → Prop) (a0 a1 a2 a3 a4 : Value) (w : World) (h : d_code_maker_send R a0 a1 a2 a3 a4 w) : Tr P F.code_maker_send [a0, a1, a2, a3, a4] w R :=
  fn_ok (fn := Tryz.f73) (c := Tryz.f73.body.getD .skip) (fuel := 4000) mixed tab_ok Tryz.func73 (by kernel_rfl) (by kernel_rfl) (Nat.le_of_ble_eq_true (by kernel_rfl)) (Eq.mpr (e_code_maker_send R a0 a1 a2 a3 a4 w) h)
end Go.Vx
set_option maxRecDepth 100000
set_option linter.unusedVariables false
namespace Go.Vx
open Go Go.Proofs
/-- lapidary/lex.PlainName -/
def d_lex_PlainName (R : Ending → World → Prop) (a0 : Value) (w : World) : Prop :=
  bd [.string ⟨#[]⟩, .int .i64 0] [(0, 1, a0)] (fun t5 w =>
  al t5.cells.toList 132 (fun t6 w =>
  cl P F.lex_reader_name [t6] (fun t8 w =>
  cnd t8
  (nc t6 (fun t11 w =>
  fa 1 t11 (fun t12 w =>
  ld t12 (fun t13 w =>
  lnS a0 (fun t15 w =>
  bI .eql .i64 t13 t15 (fun t16 w =>
  R (.returned t16) w) w) w) w) w) w)
  (R (.returned (.bool false)) w)) (fun ch w => R (.panicked ch) w) w) w) w
theorem e_lex_PlainName (R : Ending → World → Prop) (a0 : Value) (w : World) : vcFn P tab 4000 Tryz.f89.ntmps (Tryz.f89.body.getD .skip) Tryz.f89.results.toList [a0] R w = d_lex_PlainName R a0 w := by kernel_rfl
theorem t_lex_PlainName (R : Ending → World → Prop) (a0 : Value) (w : World) (h : d_lex_PlainName R a0 w) : Tr P F.lex_PlainName [a0] w R :=
  fn_ok (fn := Tryz.f89) (c := Tryz.f89.body.getD .skip) (fuel := 4000) mixed tab_ok Tryz.func89 (by kernel_rfl) (by kernel_rfl) (Nat.le_of_ble_eq_true (by kernel_rfl)) (Eq.mpr (e_lex_PlainName R a0 w) h)
/-- lapidary/lapidaryref07.name -/
def d_ref07_name (R : Ending → World → Prop) (a0 a1 : Value) (w : World) : Prop :=
  jn 1 (fun x4 w =>
  lp 1 [a1] (fun r2 x1 w =>
  lnS a0 (fun t19 w =>
  bI .lss .i64 x1 t19 (fun t20 w =>
  cnd t20
  (ix a0 x1 (fun t24 w =>
  cl P F.ref07_letter [t24] (fun t25 w =>
  cnd t25
  (bI .add .i64 x1 (Value.int IntKind.i64 1) (fun t40 w =>
  sm [(a0, a0), (x4, x4)] [] [] (r2 [t40] w)) w)
  (ix a0 x1 (fun t29 w =>
  cl P F.ref07_digit [t29] (fun t30 w =>
  cnd t30
  (bI .add .i64 x1 (Value.int IntKind.i64 1) (fun t40 w =>
  sm [(a0, a0), (x4, x4)] [] [] (r2 [t40] w)) w)
  (ix a0 x1 (fun t35 w =>
  bI .eql .u8 t35 (Value.int IntKind.u8 95) (fun t36 w =>
  cnd t36
  (bI .add .i64 x1 (Value.int IntKind.i64 1) (fun t40 w =>
  sm [(a0, a0), (x4, x4)] [] [] (r2 [t40] w)) w)
  (R (.returned x1) w)) w) w)) (fun ch w => R (.panicked ch) w) w) w)) (fun ch w => R (.panicked ch) w) w) w)
  (R (.returned x1) w)) w) w) w) (fun k1 =>
  lnS a0 (fun t7 w =>
  bI .geq .i64 a1 t7 (fun t8 w =>
  cnd t8
  (R (.returned a1) w)
  (ix a0 a1 (fun t12 w =>
  cl P F.ref07_letter [t12] (fun t13 w =>
  uN t13 (fun t14 w =>
  cnd t14
  (R (.returned a1) w)
  (sm [(a0, a0), (a1, a1)] [] [] (k1 (Value.int IntKind.i64 0) w))) w) (fun ch w => R (.panicked ch) w) w) w)) w) w)
theorem e_ref07_name (R : Ending → World → Prop) (a0 a1 : Value) (w : World) : vcFn P tab 4000 Tryz.f90.ntmps (Tryz.f90.body.getD .skip) Tryz.f90.results.toList [a0, a1] R w = d_ref07_name R a0 a1 w := by kernel_rfl
theorem t_ref07_name (R : Ending → World → Prop) (a0 a1 : Value) (w : World) (h : d_ref07_name R a0 a1 w) : Tr P F.ref07_name [a0, a1] w R :=
  fn_ok (fn := Tryz.f90) (c := Tryz.f90.body.getD .skip) (fuel := 4000) mixed tab_ok Tryz.func90 (by kernel_rfl) (by kernel_rfl) (Nat.le_of_ble_eq_true (by kernel_rfl)) (Eq.mpr (e_ref07_name R a0 a1 w) h)
/-- (*lapidary/lex.reader).more -/
def d_lex_reader_more (R : Ending → World → Prop) (a0 a1 : Value) (w : World) : Prop :=
  drw w (fun w =>
  nc a0 (fun t6 w =>
  fa 1 t6 (fun t7 w =>
  ld t7 (fun t8 w =>
  nc a0 (fun t10 w =>
  fa 0 t10 (fun t11 w =>
  ld t11 (fun t12 w =>
  lnS t12 (fun t13 w =>
  bI .lss .i64 t8 t13 (fun t14 w =>
  cnd t14
  (nc a0 (fun t18 w =>
  fa 0 t18 (fun t19 w =>
  ld t19 (fun t20 w =>
  nc a0 (fun t22 w =>
  fa 1 t22 (fun t23 w =>
  ld t23 (fun t24 w =>
  ix t20 t24 (fun t25 w =>
  clv P a1 [t25] (fun t26 w =>
  R (.returned t26) w) (fun ch w => R (.panicked ch) w) w) w) w) w) w) w) w) w)
  (R (.returned (.bool false)) w)) w) w) w) w) w) w) w) w)
theorem e_lex_reader_more (R : Ending → World → Prop) (a0 a1 : Value) (w : World) : vcFn P tab 4000 Tryz.f91.ntmps (Tryz.f91.body.getD .skip) Tryz.f91.results.toList [a0, a1] R w = d_lex_reader_more R a0 a1 w := by kernel_rfl
theorem t_lex_reader_more (R : Ending → World → Prop) (a0 a1 : Value) (w : World) (h : d_lex_reader_more R a0 a1 w) : Tr P F.lex_reader_more [a0, a1] w R :=
  fn_ok (fn := Tryz.f91) (c := Tryz.f91.body.getD .skip) (fuel := 4000) mixed tab_ok Tryz.func91 (by kernel_rfl) (by kernel_rfl) (Nat.le_of_ble_eq_true (by kernel_rfl)) (Eq.mpr (e_lex_reader_more R a0 a1 w) h)
/-- internal/stringslite.IndexByte -/
def d_internal_stringslite_IndexByte (R : Ending → World → Prop) (a0 a1 : Value) (w : World) : Prop :=
  cl P F.internal_bytealg_IndexByteString [a0, a1] (fun t7 w =>
  R (.returned t7) w) (fun ch w => R (.panicked ch) w) w
theorem e_internal_stringslite_IndexByte (R : Ending → World → Prop) (a0 a1 : Value) (w : World) : vcFn P tab 4000 Tryz.f92.ntmps (Tryz.f92.body.getD .skip) Tryz.f92.results.toList [a0, a1] R w = d_internal_stringslite_IndexByte R a0 a1 w := by kernel_rfl
theorem t_internal_stringslite_IndexByte (R : Ending → World → Prop) (a0 a1 : Value) (w : World) (h : d_internal_stringslite_IndexByte R a0 a1 w) : Tr P F.internal_stringslite_IndexByte [a0, a1] w R :=
  fn_ok (fn := Tryz.f92) (c := Tryz.f92.body.getD .skip) (fuel := 4000) mixed tab_ok Tryz.func92 (by kernel_rfl) (by kernel_rfl) (Nat.le_of_ble_eq_true (by kernel_rfl)) (Eq.mpr (e_internal_stringslite_IndexByte R a0 a1 w) h)
/-- lapidary/lex.letter -/
def d_lex_letter (R : Ending → World → Prop) (a0 : Value) (w : World) : Prop :=
  bI .or .u8 a0 (Value.int IntKind.u8 32) (fun t4 w =>
  bI .geq .u8 t4 (Value.int IntKind.u8 97) (fun t5 w =>
  cnd t5
  (bI .or .u8 a0 (Value.int IntKind.u8 32) (fun t8 w =>
  bI .leq .u8 t8 (Value.int IntKind.u8 122) (fun t9 w =>
  R (.returned t9) w) w) w)
  (R (.returned (.bool false)) w)) w) w
theorem e_lex_letter (R : Ending → World → Prop) (a0 : Value) (w : World) : vcFn P tab 4000 Tryz.f93.ntmps (Tryz.f93.body.getD .skip) Tryz.f93.results.toList [a0] R w = d_lex_letter R a0 w := by kernel_rfl
theorem t_lex_letter (R : Ending → World → Prop) (a0 : Value) (w : World) (h : d_lex_letter R a0 w) : Tr P F.lex_letter [a0] w R :=
  fn_ok (fn := Tryz.f93) (c := Tryz.f93.body.getD .skip) (fuel := 4000) mixed tab_ok Tryz.func93 (by kernel_rfl) (by kernel_rfl) (Nat.le_of_ble_eq_true (by kernel_rfl)) (Eq.mpr (e_lex_letter R a0 w) h)
/-- (*lapidary/lex.reader).name -/
def d_lex_reader_name (R : Ending → World → Prop) (a0 : Value) (w : World) : Prop :=
  cl P F.lex_reader_more [a0, (.func (.func F.lex_letter) #[] #[])] (fun t4 w =>
  uN t4 (fun t5 w =>
  cnd t5
  (R (.returned (.bool false)) w)
  (cl P F.lex_reader_skip [a0, (.func (.func F.lex_reader_name_1) #[] #[])] (fun t7 w =>
  R (.returned (.bool true)) w) (fun ch w => R (.panicked ch) w) w)) w) (fun ch w => R (.panicked ch) w) w
theorem e_lex_reader_name (R : Ending → World → Prop) (a0 : Value) (w : World) : vcFn P tab 4000 Tryz.f94.ntmps (Tryz.f94.body.getD .skip) Tryz.f94.results.toList [a0] R w = d_lex_reader_name R a0 w := by kernel_rfl
theorem t_lex_reader_name (R : Ending → World → Prop) (a0 : Value) (w : World) (h : d_lex_reader_name R a0 w) : Tr P F.lex_reader_name [a0] w R :=
  fn_ok (fn := Tryz.f94) (c := Tryz.f94.body.getD .skip) (fuel := 4000) mixed tab_ok Tryz.func94 (by kernel_rfl) (by kernel_rfl) (Nat.le_of_ble_eq_true (by kernel_rfl)) (Eq.mpr (e_lex_reader_name R a0 w) h)
/-- (*lapidary/lex.reader).colon -/
def d_lex_reader_colon (R : Ending → World → Prop) (a0 : Value) (w : World) : Prop :=
  cl P F.lex_reader_peek [a0, (Value.int IntKind.i64 0)] (fun t4 w =>
  bI .eql .u8 t4 (Value.int IntKind.u8 58) (fun t5 w =>
  cnd t5
  (cl P F.lex_reader_peek [a0, (Value.int IntKind.i64 1)] (fun t8 w =>
  bI .neq .u8 t8 (Value.int IntKind.u8 61) (fun t9 w =>
  R (.returned t9) w) w) (fun ch w => R (.panicked ch) w) w)
  (R (.returned (.bool false)) w)) w) (fun ch w => R (.panicked ch) w) w
theorem e_lex_reader_colon (R : Ending → World → Prop) (a0 : Value) (w : World) : vcFn P tab 4000 Tryz.f95.ntmps (Tryz.f95.body.getD .skip) Tryz.f95.results.toList [a0] R w = d_lex_reader_colon R a0 w := by kernel_rfl
theorem t_lex_reader_colon (R : Ending → World → Prop) (a0 : Value) (w : World) (h : d_lex_reader_colon R a0 w) : Tr P F.lex_reader_colon [a0] w R :=
  fn_ok (fn := Tryz.f95) (c := Tryz.f95.body.getD .skip) (fuel := 4000) mixed tab_ok Tryz.func95 (by kernel_rfl) (by kernel_rfl) (Nat.le_of_ble_eq_true (by kernel_rfl)) (Eq.mpr (e_lex_reader_colon R a0 w) h)
/-- lapidary/lex.digit -/
def d_lex_digit (R : Ending → World → Prop) (a0 : Value) (w : World) : Prop :=
  bI .geq .u8 a0 (Value.int IntKind.u8 48) (fun t4 w =>
  cnd t4
  (bI .leq .u8 a0 (Value.int IntKind.u8 57) (fun t7 w =>
  R (.returned t7) w) w)
  (R (.returned (.bool false)) w)) w
theorem e_lex_digit (R : Ending → World → Prop) (a0 : Value) (w : World) : vcFn P tab 4000 Tryz.f96.ntmps (Tryz.f96.body.getD .skip) Tryz.f96.results.toList [a0] R w = d_lex_digit R a0 w := by kernel_rfl
theorem t_lex_digit (R : Ending → World → Prop) (a0 : Value) (w : World) (h : d_lex_digit R a0 w) : Tr P F.lex_digit [a0] w R :=
  fn_ok (fn := Tryz.f96) (c := Tryz.f96.body.getD .skip) (fuel := 4000) mixed tab_ok Tryz.func96 (by kernel_rfl) (by kernel_rfl) (Nat.le_of_ble_eq_true (by kernel_rfl)) (Eq.mpr (e_lex_digit R a0 w) h)
/-- lapidary/whole.Read -/
def d_whole_Read (R : Ending → World → Prop) (a0 : Value) (w : World) : Prop :=
  al [.bool false, .slice none 0 0] 178 (fun t2 w =>
  cl P F.strings_CutPrefix [a0, (Value.string { data := #[45] })] (fun t12 w =>
  ex t12 0 (fun t13 w =>
  ex t12 1 (fun t14 w =>
  jn 1 (fun x3 w =>
  lnS a0 (fun t35 w =>
  bI .gtr .i64 t35 (Value.int IntKind.i64 400) (fun t36 w =>
  cnd t36
  (bd [.bool false, .slice none 0 0] [] (fun t37 w =>
  st 2 t2 t37 (fun w =>
  ldn 2 t2 (fun r0 w =>
  R (.returned (.tuple #[r0, (Value.int IntKind.i64 24)])) w) w) w) w)
  (cSB 5 t13 (fun t39 w =>
  lnL t39 (fun t40 w =>
  lp 2 [(Value.slice none 0 0), (Value.int IntKind.i64 0)] (fun r2 x7 x41 w =>
  bI .lss .i64 x41 t40 (fun t42 w =>
  cnd t42
  (ia 1 t39 x41 (fun t43 w =>
  ld t43 (fun t44 w =>
  bs 211 [.int .u32 0] 1 [(0, 1, (Value.int IntKind.u32 10))] (fun t46 w =>
  cl P F.whole_times [x7, t46] (fun t47 w =>
  bI .sub .u8 t44 (Value.int IntKind.u8 48) (fun t49 w =>
  cI .u32 t49 (fun t50 w =>
  bs 211 [.int .u32 0] 1 [(0, 1, t50)] (fun t51 w =>
  cl P F.whole_words_trim [t51] (fun t52 w =>
  cl P F.whole_plus [t47, t52] (fun t53 w =>
  bI .add .i64 x41 (Value.int IntKind.i64 1) (fun t54 w =>
  sm [(t2, t2), (x3, x3), (t14, t14), (t39, t39), (t40, t40)] [] [] (r2 [t53, t54] w)) w) (fun ch w => R (.panicked ch) w) w) (fun ch w => R (.panicked ch) w) w) w) w) w) (fun ch w => R (.panicked ch) w) w) w) w) w)
  (cl P F.whole_fits [t14, x7] (fun t57 w =>
  ex t57 0 (fun t58 w =>
  ex t57 1 (fun t59 w =>
  st 2 t2 t58 (fun w =>
  ldn 2 t2 (fun r0 w =>
  R (.returned (.tuple #[r0, t59])) w) w) w) w) w) (fun ch w => R (.panicked ch) w) w)) w) w) w) w)) w) w) (fun k1 =>
  bS .eql t13 (Value.string { data := #[] }) (fun t16 w =>
  cnd t16
  (bd [.bool false, .slice none 0 0] [] (fun t33 w =>
  st 2 t2 t33 (fun w =>
  ldn 2 t2 (fun r0 w =>
  R (.returned (.tuple #[r0, (Value.int IntKind.i64 11)])) w) w) w) w)
  (cl P F.strings_IndexFunc [t13, (.func (.func F.whole_Read_1) #[] #[])] (fun t20 w =>
  bI .geq .i64 t20 (Value.int IntKind.i64 0) (fun t21 w =>
  cnd t21
  (bd [.bool false, .slice none 0 0] [] (fun t33 w =>
  st 2 t2 t33 (fun w =>
  ldn 2 t2 (fun r0 w =>
  R (.returned (.tuple #[r0, (Value.int IntKind.i64 11)])) w) w) w) w)
  (ix t13 (Value.int IntKind.i64 0) (fun t25 w =>
  bI .eql .u8 t25 (Value.int IntKind.u8 48) (fun t26 w =>
  cnd t26
  (lnS a0 (fun t29 w =>
  bI .gtr .i64 t29 (Value.int IntKind.i64 1) (fun t30 w =>
  cnd t30
  (bd [.bool false, .slice none 0 0] [] (fun t33 w =>
  st 2 t2 t33 (fun w =>
  ldn 2 t2 (fun r0 w =>
  R (.returned (.tuple #[r0, (Value.int IntKind.i64 11)])) w) w) w) w)
  (sm [(a0, a0), (t2, t2), (t13, t13), (t14, t14)] [] [] (k1 (Value.int IntKind.i64 0) w))) w) w)
  (sm [(a0, a0), (t2, t2), (t13, t13), (t14, t14)] [] [] (k1 (Value.int IntKind.i64 0) w))) w) w)) w) (fun ch w => R (.panicked ch) w) w)) w)) w) w) (fun ch w => R (.panicked ch) w) w) w
theorem e_whole_Read (R : Ending → World → Prop) (a0 : Value) (w : World) : vcFn P tab 4000 Tryz.f97.ntmps (Tryz.f97.body.getD .skip) Tryz.f97.results.toList [a0] R w = d_whole_Read R a0 w := by kernel_rfl
theorem t_whole_Read (R : Ending → World → Prop) (a0 : Value) (w : World) (h : d_whole_Read R a0 w) : Tr P F.whole_Read [a0] w R :=
  fn_ok (fn := Tryz.f97) (c := Tryz.f97.body.getD .skip) (fuel := 4000) mixed tab_ok Tryz.func97 (by kernel_rfl) (by kernel_rfl) (Nat.le_of_ble_eq_true (by kernel_rfl)) (Eq.mpr (e_whole_Read R a0 w) h)
/-- (*lapidary/lex.reader).quoted -/
def d_lex_reader_quoted (R : Ending → World → Prop) (a0 : Value) (w : World) : Prop :=
  sc 2 (fun j1 =>
  al [.pointer none, .slice none 0 0] 189 (fun t4 w =>
  cl P F.lex_reader_peek [a0, (Value.int IntKind.i64 0)] (fun t6 w =>
  bI .neq .u8 t6 (Value.int IntKind.u8 39) (fun t7 w =>
  cnd t7
  (sm [] [] [] (j1 0 [(Value.string { data := #[] }), (.bool false)] w))
  (nc a0 (fun t9 w =>
  fa 1 t9 (fun t10 w =>
  ld t10 (fun t11 w =>
  bI .add .i64 t11 (Value.int IntKind.i64 1) (fun t12 w =>
  nc a0 (fun t13 w =>
  fa 1 t13 (fun t14 w =>
  st 1 t14 t12 (fun w =>
  lp 2 [(Value.string { data := #[] }), (.bool false)] (fun r2 x2 x3 w =>
  drw w (fun w =>
  nc a0 (fun t16 w =>
  fa 1 t16 (fun t17 w =>
  ld t17 (fun t18 w =>
  nc a0 (fun t20 w =>
  fa 0 t20 (fun t21 w =>
  ld t21 (fun t22 w =>
  lnS t22 (fun t23 w =>
  bI .lss .i64 t18 t23 (fun t24 w =>
  cnd t24
  (jn 2 (fun x2 x3 w =>
  nc a0 (fun t26 w =>
  fa 1 t26 (fun t27 w =>
  ld t27 (fun t28 w =>
  bI .add .i64 t28 (Value.int IntKind.i64 1) (fun t29 w =>
  nc a0 (fun t30 w =>
  fa 1 t30 (fun t31 w =>
  st 1 t31 t29 (fun w =>
  sm [(a0, a0), (t4, t4)] [] [] (r2 [x2, x3] w)) w) w) w) w) w) w) w) (fun k3 =>
  jn 2 (fun x2 x3 w =>
  drw w (fun w =>
  nc a0 (fun t63 w =>
  fa 0 t63 (fun t64 w =>
  ld t64 (fun t65 w =>
  nc a0 (fun t67 w =>
  fa 1 t67 (fun t68 w =>
  ld t68 (fun t69 w =>
  ix t65 t69 (fun t70 w =>
  cl P F.strings_Builder_WriteByte [t4, t70] (fun t71 w =>
  sm [(a0, a0), (t4, t4)] [] [] (k3 x2 x3 w)) (fun ch w => R (.panicked ch) w) w) w) w) w) w) w) w) w)) (fun k4 =>
  drw w (fun w =>
  nc a0 (fun t33 w =>
  fa 0 t33 (fun t34 w =>
  ld t34 (fun t35 w =>
  nc a0 (fun t37 w =>
  fa 1 t37 (fun t38 w =>
  ld t38 (fun t39 w =>
  ix t35 t39 (fun t40 w =>
  bI .eql .u8 t40 (Value.int IntKind.u8 39) (fun t41 w =>
  cnd t41
  (cl P F.lex_reader_peek [a0, (Value.int IntKind.i64 1)] (fun t43 w =>
  bI .neq .u8 t43 (Value.int IntKind.u8 39) (fun t44 w =>
  cnd t44
  (nc a0 (fun t46 w =>
  fa 1 t46 (fun t47 w =>
  ld t47 (fun t48 w =>
  bI .add .i64 t48 (Value.int IntKind.i64 1) (fun t49 w =>
  nc a0 (fun t50 w =>
  fa 1 t50 (fun t51 w =>
  st 1 t51 t49 (fun w =>
  cl P F.strings_Builder_String [t4] (fun t52 w =>
  cl P F.strings_Builder_Len [t4] (fun t53 w =>
  bI .leq .i64 t53 (Value.int IntKind.i64 1024) (fun t54 w =>
  R (.returned (.tuple #[t52, t54])) w) w) (fun ch w => R (.panicked ch) w) w) (fun ch w => R (.panicked ch) w) w) w) w) w) w) w) w) w)
  (nc a0 (fun t56 w =>
  fa 1 t56 (fun t57 w =>
  ld t57 (fun t58 w =>
  bI .add .i64 t58 (Value.int IntKind.i64 1) (fun t59 w =>
  nc a0 (fun t60 w =>
  fa 1 t60 (fun t61 w =>
  st 1 t61 t59 (fun w =>
  sm [(a0, a0), (t4, t4)] [] [] (k4 x2 x3 w)) w) w) w) w) w) w) w)) w) (fun ch w => R (.panicked ch) w) w)
  (sm [(a0, a0), (t4, t4)] [] [] (k4 x2 x3 w))) w) w) w) w) w) w) w) w))))
  (R (.returned (.tuple #[(Value.string { data := #[] }), (.bool false)])) w)) w) w) w) w) w) w) w) w)) w) w) w) w) w) w) w) w)) w) (fun ch w => R (.panicked ch) w) w) w) [(0, fun j1 x2 x3 w =>
  R (.returned (.tuple #[(Value.string { data := #[] }), (.bool false)])) w)]
theorem e_lex_reader_quoted (R : Ending → World → Prop) (a0 : Value) (w : World) : vcFn P tab 4000 Tryz.f98.ntmps (Tryz.f98.body.getD .skip) Tryz.f98.results.toList [a0] R w = d_lex_reader_quoted R a0 w := by kernel_rfl
theorem t_lex_reader_quoted (R : Ending → World → Prop) (a0 : Value) (w : World) (h : d_lex_reader_quoted R a0 w) : Tr P F.lex_reader_quoted [a0] w R :=
  fn_ok (fn := Tryz.f98) (c := Tryz.f98.body.getD .skip) (fuel := 4000) mixed tab_ok Tryz.func98 (by kernel_rfl) (by kernel_rfl) (Nat.le_of_ble_eq_true (by kernel_rfl)) (Eq.mpr (e_lex_reader_quoted R a0 w) h)
/-- (*lapidary/lex.reader).peek -/
def d_lex_reader_peek (R : Ending → World → Prop) (a0 a1 : Value) (w : World) : Prop :=
  drw w (fun w =>
  nc a0 (fun t6 w =>
  fa 1 t6 (fun t7 w =>
  ld t7 (fun t8 w =>
  bI .add .i64 t8 a1 (fun t10 w =>
  nc a0 (fun t12 w =>
  fa 0 t12 (fun t13 w =>
  ld t13 (fun t14 w =>
  lnS t14 (fun t15 w =>
  bI .lss .i64 t10 t15 (fun t16 w =>
  cnd t16
  (drw w (fun w =>
  nc a0 (fun t18 w =>
  fa 0 t18 (fun t19 w =>
  ld t19 (fun t20 w =>
  nc a0 (fun t22 w =>
  fa 1 t22 (fun t23 w =>
  ld t23 (fun t24 w =>
  bI .add .i64 t24 a1 (fun t26 w =>
  ix t20 t26 (fun t27 w =>
  R (.returned t27) w) w) w) w) w) w) w) w) w))
  (R (.returned (Value.int IntKind.u8 0)) w)) w) w) w) w) w) w) w) w) w)
theorem e_lex_reader_peek (R : Ending → World → Prop) (a0 a1 : Value) (w : World) : vcFn P tab 4000 Tryz.f99.ntmps (Tryz.f99.body.getD .skip) Tryz.f99.results.toList [a0, a1] R w = d_lex_reader_peek R a0 a1 w := by kernel_rfl
theorem t_lex_reader_peek (R : Ending → World → Prop) (a0 a1 : Value) (w : World) (h : d_lex_reader_peek R a0 a1 w) : Tr P F.lex_reader_peek [a0, a1] w R :=
  fn_ok (fn := Tryz.f99) (c := Tryz.f99.body.getD .skip) (fuel := 4000) mixed tab_ok Tryz.func99 (by kernel_rfl) (by kernel_rfl) (Nat.le_of_ble_eq_true (by kernel_rfl)) (Eq.mpr (e_lex_reader_peek R a0 a1 w) h)
/-- (*lapidary/lex.reader).symbol -/
def d_lex_reader_symbol (R : Ending → World → Prop) (a0 : Value) (w : World) : Prop :=
  nc a0 (fun t6 w =>
  fa 1 t6 (fun t7 w =>
  ld t7 (fun t8 w =>
  jn 2 (fun x2 x3 w =>
  drw w (fun w =>
  nc a0 (fun t30 w =>
  fa 0 t30 (fun t31 w =>
  ld t31 (fun t32 w =>
  nc a0 (fun t35 w =>
  fa 1 t35 (fun t36 w =>
  ld t36 (fun t37 w =>
  slS t32 (some t8) (some t37) (fun t38 w =>
  nc a0 (fun t40 w =>
  fa 1 t40 (fun t41 w =>
  ld t41 (fun t42 w =>
  bI .sub .i64 t42 t8 (fun t44 w =>
  bI .leq .i64 t44 (Value.int IntKind.i64 1024) (fun t45 w =>
  R (.returned (.tuple #[t38, t45])) w) w) w) w) w) w) w) w) w) w) w) w) w)) (fun k1 =>
  cl P F.lex_reader_name [a0] (fun t10 w =>
  cnd t10
  (lp 0 [] (fun r2 w =>
  cl P F.lex_reader_colon [a0] (fun t12 w =>
  cnd t12
  (nc a0 (fun t14 w =>
  fa 1 t14 (fun t15 w =>
  ld t15 (fun t16 w =>
  bI .add .i64 t16 (Value.int IntKind.i64 1) (fun t17 w =>
  nc a0 (fun t18 w =>
  fa 1 t18 (fun t19 w =>
  st 1 t19 t17 (fun w =>
  cl P F.lex_reader_name [a0] (fun t21 w =>
  sm [(a0, a0), ((Value.string { data := #[] }), (Value.string { data := #[] })), ((.bool false), (.bool false)), (t8, t8)] [] [] (r2 [] w)) (fun ch w => R (.panicked ch) w) w) w) w) w) w) w) w) w)
  (sm [(a0, a0), (t8, t8)] [] [] (k1 (Value.string { data := #[] }) (.bool false) w))) (fun ch w => R (.panicked ch) w) w) w)
  (cl P F.lex_reader_sign [a0] (fun t23 w =>
  uN t23 (fun t24 w =>
  cnd t24
  (cl P F.lex_reader_quoted [a0] (fun t26 w =>
  ex t26 0 (fun t27 w =>
  ex t26 1 (fun t28 w =>
  R (.returned (.tuple #[t27, t28])) w) w) w) (fun ch w => R (.panicked ch) w) w)
  (sm [(a0, a0), (t8, t8)] [] [] (k1 (Value.string { data := #[] }) (.bool false) w))) w) (fun ch w => R (.panicked ch) w) w)) (fun ch w => R (.panicked ch) w) w)) w) w) w
theorem e_lex_reader_symbol (R : Ending → World → Prop) (a0 : Value) (w : World) : vcFn P tab 4000 Tryz.f100.ntmps (Tryz.f100.body.getD .skip) Tryz.f100.results.toList [a0] R w = d_lex_reader_symbol R a0 w := by kernel_rfl
theorem t_lex_reader_symbol (R : Ending → World → Prop) (a0 : Value) (w : World) (h : d_lex_reader_symbol R a0 w) : Tr P F.lex_reader_symbol [a0] w R :=
  fn_ok (fn := Tryz.f100) (c := Tryz.f100.body.getD .skip) (fuel := 4000) mixed tab_ok Tryz.func100 (by kernel_rfl) (by kernel_rfl) (Nat.le_of_ble_eq_true (by kernel_rfl)) (Eq.mpr (e_lex_reader_symbol R a0 w) h)
/-- (*lapidary/lex.reader).sign -/
def d_lex_reader_sign (R : Ending → World → Prop) (a0 : Value) (w : World) : Prop :=
  nc a0 (fun t5 w =>
  fa 1 t5 (fun t6 w =>
  ld t6 (fun t7 w =>
  lp 0 [] (fun r1 w =>
  jn 2 (fun x16 x17 w =>
  nc a0 (fun t20 w =>
  fa 1 t20 (fun t21 w =>
  ld t21 (fun t22 w =>
  bI .add .i64 t22 (Value.int IntKind.i64 1) (fun t23 w =>
  nc a0 (fun t24 w =>
  fa 1 t24 (fun t25 w =>
  st 1 t25 t23 (fun w =>
  sm [(a0, a0), ((.bool false), (.bool false)), (t7, t7)] [] [] (r1 [] w)) w) w) w) w) w) w) w) (fun k2 =>
  nc a0 (fun t9 w =>
  fa 1 t9 (fun t10 w =>
  ld t10 (fun t11 w =>
  bI .add .i64 t7 (Value.int IntKind.i64 2) (fun t13 w =>
  bI .lss .i64 t11 t13 (fun t14 w =>
  cnd t14
  (cl P F.lex_reader_more [a0, (.func (.func F.lex_reader_sign_1) #[] #[])] (fun t17 w =>
  cnd t17
  (sm [(a0, a0), ((.bool false), (.bool false)), (t7, t7)] [] [] (k2 a0 t17 w))
  (nc a0 (fun t27 w =>
  fa 1 t27 (fun t28 w =>
  ld t28 (fun t29 w =>
  bI .gtr .i64 t29 t7 (fun t31 w =>
  R (.returned t31) w) w) w) w) w)) (fun ch w => R (.panicked ch) w) w)
  (nc a0 (fun t27 w =>
  fa 1 t27 (fun t28 w =>
  ld t28 (fun t29 w =>
  bI .gtr .i64 t29 t7 (fun t31 w =>
  R (.returned t31) w) w) w) w) w)) w) w) w) w) w)) w) w) w) w
theorem e_lex_reader_sign (R : Ending → World → Prop) (a0 : Value) (w : World) : vcFn P tab 4000 Tryz.f101.ntmps (Tryz.f101.body.getD .skip) Tryz.f101.results.toList [a0] R w = d_lex_reader_sign R a0 w := by kernel_rfl
theorem t_lex_reader_sign (R : Ending → World → Prop) (a0 : Value) (w : World) (h : d_lex_reader_sign R a0 w) : Tr P F.lex_reader_sign [a0] w R :=
  fn_ok (fn := Tryz.f101) (c := Tryz.f101.body.getD .skip) (fuel := 4000) mixed tab_ok Tryz.func101 (by kernel_rfl) (by kernel_rfl) (Nat.le_of_ble_eq_true (by kernel_rfl)) (Eq.mpr (e_lex_reader_sign R a0 w) h)
/-- (*lapidary/tree.parser).expression -/
def d_tree_parser_expression (R : Ending → World → Prop) (a0 : Value) (w : World) : Prop :=
  al a0.cells.toList 70 (fun t1 w =>
  al [.int .i64 0, .string ⟨#[]⟩, .int .i64 0, .int .i64 0, .slice none 0 0, .slice none 0 0] 50 (fun t2 w =>
  jn 1 (fun x17 w =>
  cnd x17
  (ld t1 (fun t18 w =>
  cl P F.tree_parser_take [t18] (fun t19 w =>
  al [.int .i64 0, .string ⟨#[]⟩, .int .i64 0] 112 (fun t3 w =>
  st 3 t3 t19 (fun w =>
  fa 1 t3 (fun t20 w =>
  ld t20 (fun t21 w =>
  fa 2 t3 (fun t22 w =>
  ld t22 (fun t23 w =>
  bd [.int .i64 0, .string ⟨#[]⟩, .int .i64 0, .int .i64 0, .slice none 0 0, .slice none 0 0] [(0, 1, (Value.int IntKind.i64 6)), (1, 1, t21), (2, 1, t23)] (fun t24 w =>
  al [.int .i64 0, .string ⟨#[]⟩, .int .i64 0, .int .i64 0, .slice none 0 0, .slice none 0 0] 50 (fun t4 w =>
  st 6 t4 t24 (fun w =>
  ld t1 (fun t25 w =>
  cl P F.tree_parser_within [t25, (.func (.func F.tree_parser_expression_1) #[] #[t1, t4])] (fun t27 w =>
  ldn 6 t4 (fun t28 w =>
  st 6 t2 t28 (fun w =>
  ldn 6 t2 (fun r0 w =>
  R (.returned r0) w) w) w) w) (fun ch w => R (.panicked ch) w) w) w) w) w) w) w) w) w) w) w) w) (fun ch w => R (.panicked ch) w) w) w)
  (ld t1 (fun t29 w =>
  cl P F.tree_parser_cascade [t29] (fun t30 w =>
  st 6 t2 t30 (fun w =>
  ldn 6 t2 (fun r0 w =>
  R (.returned r0) w) w) w) (fun ch w => R (.panicked ch) w) w) w)) (fun k1 =>
  ld t1 (fun t5 w =>
  cl P F.tree_parser_kind [t5] (fun t6 w =>
  bI .eql .i64 t6 (Value.int IntKind.i64 1) (fun t7 w =>
  cnd t7
  (ld t1 (fun t9 w =>
  nc t9 (fun t10 w =>
  fa 0 t10 (fun t11 w =>
  ld t11 (fun t12 w =>
  ia 3 t12 (Value.int IntKind.i64 1) (fun t13 w =>
  fa 0 t13 (fun t14 w =>
  ld t14 (fun t15 w =>
  bI .eql .i64 t15 (Value.int IntKind.i64 7) (fun t16 w =>
  sm [(t1, t1), (t2, t2)] [] [] (k1 t16 w)) w) w) w) w) w) w) w) w)
  (sm [(t1, t1), (t2, t2)] [] [] (k1 (.bool false) w))) w) (fun ch w => R (.panicked ch) w) w) w)) w) w
theorem e_tree_parser_expression (R : Ending → World → Prop) (a0 : Value) (w : World) : vcFn P tab 4000 Tryz.f102.ntmps (Tryz.f102.body.getD .skip) Tryz.f102.results.toList [a0] R w = d_tree_parser_expression R a0 w := by kernel_rfl
theorem t_tree_parser_expression (R : Ending → World → Prop) (a0 : Value) (w : World) (h : d_tree_parser_expression R a0 w) : Tr P F.tree_parser_expression [a0] w R :=
  fn_ok (fn := Tryz.f102) (c := Tryz.f102.body.getD .skip) (fuel := 4000) mixed tab_ok Tryz.func102 (by kernel_rfl) (by kernel_rfl) (Nat.le_of_ble_eq_true (by kernel_rfl)) (Eq.mpr (e_tree_parser_expression R a0 w) h)
/-- slices.Index[[]string,string] -/
def d_slices_Index_string_string (R : Ending → World → Prop) (a0 a1 : Value) (w : World) : Prop :=
  lnL a0 (fun t7 w =>
  lp 2 [(Value.int IntKind.i64 0), (Value.int IntKind.i64 0)] (fun r1 x4 x8 w =>
  bI .lss .i64 x8 t7 (fun t9 w =>
  cnd t9
  (ia 1 a0 x8 (fun t14 w =>
  ld t14 (fun t15 w =>
  bS .eql a1 t15 (fun t16 w =>
  cnd t16
  (R (.returned x8) w)
  (bI .add .i64 x8 (Value.int IntKind.i64 1) (fun t18 w =>
  sm [(a0, a0), (a1, a1), (t7, t7)] [] [] (r1 [x4, t18] w)) w)) w) w) w)
  (R (.returned (Value.int IntKind.i64 (-1))) w)) w) w) w
theorem e_slices_Index_string_string (R : Ending → World → Prop) (a0 a1 : Value) (w : World) : vcFn P tab 4000 Tryz.f103.ntmps (Tryz.f103.body.getD .skip) Tryz.f103.results.toList [a0, a1] R w = d_slices_Index_string_string R a0 a1 w := by kernel_rfl
theorem t_slices_Index_string_string (R : Ending → World → Prop) (a0 a1 : Value) (w : World) (h : d_slices_Index_string_string R a0 a1 w) : Tr P F.slices_Index_string_string [a0, a1] w R :=
  fn_ok (fn := Tryz.f103) (c := Tryz.f103.body.getD .skip) (fuel := 4000) mixed tab_ok Tryz.func103 (by kernel_rfl) (by kernel_rfl) (Nat.le_of_ble_eq_true (by kernel_rfl)) (Eq.mpr (e_slices_Index_string_string R a0 a1 w) h)
/-- (*lapidary/scope.walk).find -/
def d_scope_walk_find (R : Ending → World → Prop) (a0 a1 a2 : Value) (w : World) : Prop :=
  al [.int .i64 0, .string ⟨#[]⟩, .int .i64 0, .int .i64 0, .int .i64 0, .bool false] 146 (fun t6 w =>
  cl P F.scope_fixed [a1] (fun t15 w =>
  ex t15 0 (fun t16 w =>
  ex t15 1 (fun t17 w =>
  al [.int .i64 0, .string ⟨#[]⟩, .int .i64 0, .int .i64 0, .int .i64 0, .bool false] 146 (fun t8 w =>
  st 6 t8 t16 (fun w =>
  cnd t17
  (ldn 6 t8 (fun t19 w =>
  st 6 t6 t19 (fun w =>
  ldn 6 t6 (fun r0 w =>
  R (.returned (.tuple #[r0, (.bool false)])) w) w) w) w)
  (lp 3 [a2, (.bool false), (Value.int IntKind.i64 0)] (fun r1 x2 x7 x10 w =>
  bN .neq (.ptr 144) x2 (Value.pointer none) (fun t21 w =>
  cnd t21
  (nc x2 (fun t29 w =>
  fa 0 t29 (fun t30 w =>
  fa 4 t30 (fun t31 w =>
  ld t31 (fun t32 w =>
  cl P F.slices_Index_string_string [t32, a1] (fun t34 w =>
  bI .geq .i64 t34 (Value.int IntKind.i64 0) (fun t36 w =>
  cnd t36
  (fa 2 t8 (fun t39 w =>
  st 1 t39 (Value.int IntKind.i64 3) (fun w =>
  fa 3 t8 (fun t40 w =>
  st 1 t40 x10 (fun w =>
  fa 4 t8 (fun t41 w =>
  st 1 t41 t34 (fun w =>
  drw w (fun w =>
  ldn 6 t8 (fun t42 w =>
  nc x2 (fun t45 w =>
  fa 0 t45 (fun t46 w =>
  fa 3 t46 (fun t47 w =>
  ld t47 (fun t48 w =>
  bI .lss .i64 t34 t48 (fun t49 w =>
  st 6 t6 t42 (fun w =>
  rk false t47 t48
  (ldn 6 t6 (fun r0 w =>
  R (.returned (.tuple #[r0, t49])) w) w) w) w) w) w) w) w) w) w)) w) w) w) w) w) w)
  (drw w (fun w =>
  bI .add .i64 x10 (Value.int IntKind.i64 1) (fun t23 w =>
  nc x2 (fun t25 w =>
  fa 6 t25 (fun t26 w =>
  ld t26 (fun t27 w =>
  sm [(a0, a0), (a1, a1), (t6, t6), (t8, t8)] [] [] (r1 [t27, x7, t23] w)) w) w) w) w))) w) (fun ch w => R (.panicked ch) w) w) w) w) w) w)
  (fa 2 t8 (fun t50 w =>
  st 1 t50 (Value.int IntKind.i64 (-1)) (fun w =>
  nc a0 (fun t52 w =>
  fa 0 t52 (fun t53 w =>
  ld t53 (fun t54 w =>
  cl P F.slices_Index_string_string [t54, a1] (fun t56 w =>
  bI .geq .i64 t56 (Value.int IntKind.i64 0) (fun t58 w =>
  cnd t58
  (fa 2 t8 (fun t60 w =>
  st 1 t60 (Value.int IntKind.i64 4) (fun w =>
  fa 4 t8 (fun t61 w =>
  st 1 t61 t56 (fun w =>
  ldn 6 t8 (fun t75 w =>
  st 6 t6 t75 (fun w =>
  ldn 6 t6 (fun r0 w =>
  R (.returned (.tuple #[r0, (.bool false)])) w) w) w) w) w) w) w) w)
  (bS .neq a1 (Value.string { data := #[] }) (fun t63 w =>
  cnd t63
  (ix a1 (Value.int IntKind.i64 0) (fun t66 w =>
  bI .geq .u8 t66 (Value.int IntKind.u8 65) (fun t67 w =>
  cnd t67
  (ix a1 (Value.int IntKind.i64 0) (fun t71 w =>
  bI .leq .u8 t71 (Value.int IntKind.u8 90) (fun t72 w =>
  cnd t72
  (fa 2 t8 (fun t74 w =>
  st 1 t74 (Value.int IntKind.i64 5) (fun w =>
  ldn 6 t8 (fun t75 w =>
  st 6 t6 t75 (fun w =>
  ldn 6 t6 (fun r0 w =>
  R (.returned (.tuple #[r0, (.bool false)])) w) w) w) w) w) w)
  (ldn 6 t8 (fun t75 w =>
  st 6 t6 t75 (fun w =>
  ldn 6 t6 (fun r0 w =>
  R (.returned (.tuple #[r0, (.bool false)])) w) w) w) w)) w) w)
  (ldn 6 t8 (fun t75 w =>
  st 6 t6 t75 (fun w =>
  ldn 6 t6 (fun r0 w =>
  R (.returned (.tuple #[r0, (.bool false)])) w) w) w) w)) w) w)
  (ldn 6 t8 (fun t75 w =>
  st 6 t6 t75 (fun w =>
  ldn 6 t6 (fun r0 w =>
  R (.returned (.tuple #[r0, (.bool false)])) w) w) w) w)) w)) w) (fun ch w => R (.panicked ch) w) w) w) w) w) w) w)) w) w)) w) w) w) w) (fun ch w => R (.panicked ch) w) w) w
theorem e_scope_walk_find (R : Ending → World → Prop) (a0 a1 a2 : Value) (w : World) : vcFn P tab 4000 Tryz.f104.ntmps (Tryz.f104.body.getD .skip) Tryz.f104.results.toList [a0, a1, a2] R w = d_scope_walk_find R a0 a1 a2 w := by kernel_rfl
theorem t_scope_walk_find (R : Ending → World → Prop) (a0 a1 a2 : Value) (w : World) (h : d_scope_walk_find R a0 a1 a2 w) : Tr P F.scope_walk_find [a0, a1, a2] w R :=
  fn_ok (fn := Tryz.f104) (c := Tryz.f104.body.getD .skip) (fuel := 4000) mixed tab_ok Tryz.func104 (by kernel_rfl) (by kernel_rfl) (Nat.le_of_ble_eq_true (by kernel_rfl)) (Eq.mpr (e_scope_walk_find R a0 a1 a2 w) h)
/-- (*lapidary/tree.writer).node -/
def d_tree_writer_node (R : Ending → World → Prop) (a0 a1 : Value) (w : World) : Prop :=
  al a1.cells.toList 50 (fun t3 w =>
  fa 0 t3 (fun t9 w =>
  ld t9 (fun t10 w =>
  bI .eql .i64 t10 (Value.int IntKind.i64 2) (fun t18 w =>
  cnd t18
  (drw w (fun w =>
  nc a0 (fun t20 w =>
  fa 0 t20 (fun t21 w =>
  fa 1 t3 (fun t22 w =>
  ld t22 (fun t23 w =>
  cl P F.lex_Quote [t23] (fun t24 w =>
  cl P F.strings_Builder_WriteString [t21, t24] (fun t25 w =>
  R (.returned (.tuple #[])) w) (fun ch w => R (.panicked ch) w) w) (fun ch w => R (.panicked ch) w) w) w) w) w) w))
  (bI .eql .i64 t10 (Value.int IntKind.i64 3) (fun t27 w =>
  cnd t27
  (fa 1 t3 (fun t28 w =>
  ld t28 (fun t29 w =>
  jn 1 (fun x4 w =>
  nc a0 (fun t36 w =>
  fa 0 t36 (fun t37 w =>
  bS .add (Value.string { data := #[35] }) x4 (fun t39 w =>
  cl P F.strings_Builder_WriteString [t37, t39] (fun t40 w =>
  R (.returned (.tuple #[])) w) (fun ch w => R (.panicked ch) w) w) w) w) w) (fun k1 =>
  cl P F.lex_PlainSymbol [t29] (fun t31 w =>
  uN t31 (fun t32 w =>
  cnd t32
  (cl P F.lex_Quote [t29] (fun t34 w =>
  sm [(a0, a0)] [] [] (k1 t34 w)) (fun ch w => R (.panicked ch) w) w)
  (sm [(a0, a0)] [] [] (k1 t29 w))) w) (fun ch w => R (.panicked ch) w) w)) w) w)
  (bI .eql .i64 t10 (Value.int IntKind.i64 4) (fun t42 w =>
  cnd t42
  (nc a0 (fun t44 w =>
  fa 0 t44 (fun t45 w =>
  cl P F.strings_Builder_WriteString [t45, (Value.string { data := #[35, 40] })] (fun t46 w =>
  fa 5 t3 (fun t48 w =>
  ld t48 (fun t49 w =>
  cl P F.tree_writer_list [a0, t49, (Value.string { data := #[32] })] (fun t50 w =>
  nc a0 (fun t52 w =>
  fa 0 t52 (fun t53 w =>
  cl P F.strings_Builder_WriteByte [t53, (Value.int IntKind.u8 41)] (fun t54 w =>
  R (.returned (.tuple #[])) w) (fun ch w => R (.panicked ch) w) w) w) w) (fun ch w => R (.panicked ch) w) w) w) w) (fun ch w => R (.panicked ch) w) w) w) w)
  (bI .eql .i64 t10 (Value.int IntKind.i64 6) (fun t56 w =>
  cnd t56
  (drw w (fun w =>
  nc a0 (fun t58 w =>
  fa 0 t58 (fun t59 w =>
  fa 1 t3 (fun t60 w =>
  ld t60 (fun t61 w =>
  bS .add t61 (Value.string { data := #[32, 58, 61, 32] }) (fun t62 w =>
  cl P F.strings_Builder_WriteString [t59, t62] (fun t63 w =>
  fa 5 t3 (fun t65 w =>
  ld t65 (fun t66 w =>
  ia 6 t66 (Value.int IntKind.i64 0) (fun t67 w =>
  ldn 6 t67 (fun t68 w =>
  cl P F.tree_writer_node [a0, t68] (fun t69 w =>
  R (.returned (.tuple #[])) w) (fun ch w => R (.panicked ch) w) w) w) w) w) w) (fun ch w => R (.panicked ch) w) w) w) w) w) w) w))
  (bI .eql .i64 t10 (Value.int IntKind.i64 7) (fun t71 w =>
  cnd t71
  (drw w (fun w =>
  fa 5 t3 (fun t73 w =>
  ld t73 (fun t74 w =>
  ia 6 t74 (Value.int IntKind.i64 0) (fun t75 w =>
  ldn 6 t75 (fun t76 w =>
  fa 1 t3 (fun t77 w =>
  ld t77 (fun t78 w =>
  cl P F.tree_writer_to [a0, t76, t78] (fun t79 w =>
  drw w (fun w =>
  fa 1 t3 (fun t81 w =>
  ld t81 (fun t82 w =>
  fa 5 t3 (fun t83 w =>
  ld t83 (fun t84 w =>
  slL 6 t84 (some (Value.int IntKind.i64 1)) none none (fun t85 w =>
  cl P F.tree_writer_message [a0, t82, t85] (fun t86 w =>
  R (.returned (.tuple #[])) w) (fun ch w => R (.panicked ch) w) w) w) w) w) w) w)) (fun ch w => R (.panicked ch) w) w) w) w) w) w) w) w))
  (bI .eql .i64 t10 (Value.int IntKind.i64 8) (fun t88 w =>
  cnd t88
  (drw w (fun w =>
  fa 5 t3 (fun t90 w =>
  ld t90 (fun t91 w =>
  ia 6 t91 (Value.int IntKind.i64 0) (fun t92 w =>
  ldn 6 t92 (fun t93 w =>
  fa 5 t3 (fun t94 w =>
  ld t94 (fun t95 w =>
  ia 6 t95 (Value.int IntKind.i64 1) (fun t96 w =>
  fa 1 t96 (fun t97 w =>
  ld t97 (fun t98 w =>
  cl P F.tree_writer_to [a0, t93, t98] (fun t99 w =>
  fa 5 t3 (fun t100 w =>
  ld t100 (fun t101 w =>
  slL 6 t101 (some (Value.int IntKind.i64 1)) none none (fun t102 w =>
  lnL t102 (fun t103 w =>
  lp 1 [(Value.int IntKind.i64 0)] (fun r2 x104 w =>
  bI .lss .i64 x104 t103 (fun t105 w =>
  cnd t105
  (ia 6 t102 x104 (fun t107 w =>
  ldn 6 t107 (fun t108 w =>
  al [.int .i64 0, .string ⟨#[]⟩, .int .i64 0, .int .i64 0, .slice none 0 0, .slice none 0 0] 50 (fun t6 w =>
  st 6 t6 t108 (fun w =>
  jn 0 (fun w =>
  fa 1 t6 (fun t116 w =>
  ld t116 (fun t117 w =>
  fa 5 t6 (fun t118 w =>
  ld t118 (fun t119 w =>
  cl P F.tree_writer_message [a0, t117, t119] (fun t120 w =>
  bI .add .i64 x104 (Value.int IntKind.i64 1) (fun t121 w =>
  sm [(a0, a0), (t102, t102), (t103, t103)] [] [] (r2 [t121] w)) w) (fun ch w => R (.panicked ch) w) w) w) w) w) w) (fun k3 =>
  bI .gtr .i64 x104 (Value.int IntKind.i64 0) (fun t110 w =>
  cnd t110
  (nc a0 (fun t112 w =>
  fa 0 t112 (fun t113 w =>
  cl P F.strings_Builder_WriteByte [t113, (Value.int IntKind.u8 59)] (fun t114 w =>
  sm [(a0, a0), (t6, t6), (t102, t102), (t103, t103), (x104, x104)] [] [] (k3 w)) (fun ch w => R (.panicked ch) w) w) w) w)
  (sm [(a0, a0), (t6, t6), (t102, t102), (t103, t103), (x104, x104)] [] [] (k3 w))) w)) w) w) w) w)
  (R (.returned (.tuple #[])) w)) w) w) w) w) w) w) (fun ch w => R (.panicked ch) w) w) w) w) w) w) w) w) w) w) w))
  (bI .eql .i64 t10 (Value.int IntKind.i64 10) (fun t123 w =>
  cnd t123
  (nc a0 (fun t125 w =>
  fa 0 t125 (fun t126 w =>
  cl P F.strings_Builder_WriteByte [t126, (Value.int IntKind.u8 91)] (fun t127 w =>
  fa 4 t3 (fun t128 w =>
  ld t128 (fun t129 w =>
  fa 3 t3 (fun t130 w =>
  ld t130 (fun t131 w =>
  slL 1 t129 none (some t131) none (fun t132 w =>
  lnL t132 (fun t133 w =>
  lp 1 [(Value.int IntKind.i64 0)] (fun r4 x134 w =>
  bI .lss .i64 x134 t133 (fun t135 w =>
  cnd t135
  (ia 1 t132 x134 (fun t136 w =>
  ld t136 (fun t137 w =>
  nc a0 (fun t139 w =>
  fa 0 t139 (fun t140 w =>
  bS .add (Value.string { data := #[58] }) t137 (fun t142 w =>
  bS .add t142 (Value.string { data := #[32] }) (fun t143 w =>
  cl P F.strings_Builder_WriteString [t140, t143] (fun t144 w =>
  bI .add .i64 x134 (Value.int IntKind.i64 1) (fun t145 w =>
  sm [(a0, a0), (t3, t3), (t132, t132), (t133, t133)] [] [] (r4 [t145] w)) w) (fun ch w => R (.panicked ch) w) w) w) w) w) w) w) w)
  (jn 0 (fun w =>
  ldn 6 t3 (fun t154 w =>
  cl P F.tree_writer_body [a0, t154] (fun t155 w =>
  nc a0 (fun t157 w =>
  fa 0 t157 (fun t158 w =>
  cl P F.strings_Builder_WriteByte [t158, (Value.int IntKind.u8 93)] (fun t159 w =>
  R (.returned (.tuple #[])) w) (fun ch w => R (.panicked ch) w) w) w) w) (fun ch w => R (.panicked ch) w) w) w) (fun k5 =>
  fa 3 t3 (fun t146 w =>
  ld t146 (fun t147 w =>
  bI .gtr .i64 t147 (Value.int IntKind.i64 0) (fun t148 w =>
  cnd t148
  (nc a0 (fun t150 w =>
  fa 0 t150 (fun t151 w =>
  cl P F.strings_Builder_WriteString [t151, (Value.string { data := #[124, 32] })] (fun t152 w =>
  sm [(a0, a0), (t3, t3)] [] [] (k5 w)) (fun ch w => R (.panicked ch) w) w) w) w)
  (sm [(a0, a0), (t3, t3)] [] [] (k5 w))) w) w) w))) w) w) w) w) w) w) w) w) (fun ch w => R (.panicked ch) w) w) w) w)
  (bI .eql .i64 t10 (Value.int IntKind.i64 11) (fun t161 w =>
  cnd t161
  (nc a0 (fun t163 w =>
  fa 0 t163 (fun t164 w =>
  cl P F.strings_Builder_WriteByte [t164, (Value.int IntKind.u8 94)] (fun t165 w =>
  fa 5 t3 (fun t167 w =>
  ld t167 (fun t168 w =>
  ia 6 t168 (Value.int IntKind.i64 0) (fun t169 w =>
  ldn 6 t169 (fun t170 w =>
  cl P F.tree_writer_node [a0, t170] (fun t171 w =>
  R (.returned (.tuple #[])) w) (fun ch w => R (.panicked ch) w) w) w) w) w) w) (fun ch w => R (.panicked ch) w) w) w) w)
  (bI .eql .i64 t10 (Value.int IntKind.i64 12) (fun t173 w =>
  cnd t173
  (ldn 6 t3 (fun t175 w =>
  cl P F.tree_writer_pattern [a0, t175] (fun t176 w =>
  ldn 6 t3 (fun t178 w =>
  cl P F.tree_writer_body [a0, t178] (fun t179 w =>
  R (.returned (.tuple #[])) w) (fun ch w => R (.panicked ch) w) w) w) (fun ch w => R (.panicked ch) w) w) w)
  (drw w (fun w =>
  nc a0 (fun t12 w =>
  fa 0 t12 (fun t13 w =>
  fa 1 t3 (fun t14 w =>
  ld t14 (fun t15 w =>
  cl P F.strings_Builder_WriteString [t13, t15] (fun t16 w =>
  R (.returned (.tuple #[])) w) (fun ch w => R (.panicked ch) w) w) w) w) w) w))) w)) w)) w)) w)) w)) w)) w)) w)) w) w) w) w
theorem e_tree_writer_node (R : Ending → World → Prop) (a0 a1 : Value) (w : World) : vcFn P tab 4000 Tryz.f105.ntmps (Tryz.f105.body.getD .skip) Tryz.f105.results.toList [a0, a1] R w = d_tree_writer_node R a0 a1 w := by kernel_rfl
theorem t_tree_writer_node (R : Ending → World → Prop) (a0 a1 : Value) (w : World) (h : d_tree_writer_node R a0 a1 w) : Tr P F.tree_writer_node [a0, a1] w R :=
  fn_ok (fn := Tryz.f105) (c := Tryz.f105.body.getD .skip) (fuel := 4000) mixed tab_ok Tryz.func105 (by kernel_rfl) (by kernel_rfl) (Nat.le_of_ble_eq_true (by kernel_rfl)) (Eq.mpr (e_tree_writer_node R a0 a1 w) h)
/-- (*strings.Builder).String -/
def d_strings_Builder_String (R : Ending → World → Prop) (a0 : Value) (w : World) : Prop :=
  drw w (fun w =>
  nc a0 (fun t4 w =>
  fa 1 t4 (fun t5 w =>
  ld t5 (fun t6 w =>
  nc a0 (fun t9 w =>
  fa 1 t9 (fun t10 w =>
  ld t10 (fun t11 w =>
  lnL t11 (fun t12 w =>
  rx P (Builtin.unsafeSliceData_ #[176] 224 #[t6]) (fun t7 w =>
  rk false t10 t11
  (rx P (Builtin.unsafeString_ #[224, 3] 9 #[t7, t12]) (fun t13 w =>
  R (.returned t13) w) w) w) w) w) w) w) w) w) w) w)
theorem e_strings_Builder_String (R : Ending → World → Prop) (a0 : Value) (w : World) : vcFn P tab 4000 Tryz.f106.ntmps (Tryz.f106.body.getD .skip) Tryz.f106.results.toList [a0] R w = d_strings_Builder_String R a0 w := by kernel_rfl
theorem t_strings_Builder_String (R : Ending → World → Prop) (a0 : Value) (w : World) (h : d_strings_Builder_String R a0 w) : Tr P F.strings_Builder_String [a0] w R :=
  fn_ok (fn := Tryz.f106) (c := Tryz.f106.body.getD .skip) (fuel := 4000) mixed tab_ok Tryz.func106 (by kernel_rfl) (by kernel_rfl) (Nat.le_of_ble_eq_true (by kernel_rfl)) (Eq.mpr (e_strings_Builder_String R a0 w) h)
/-- lapidary/lapidaryref07.digit -/
def d_ref07_digit (R : Ending → World → Prop) (a0 : Value) (w : World) : Prop :=
  bI .geq .u8 a0 (Value.int IntKind.u8 48) (fun t4 w =>
  cnd t4
  (bI .leq .u8 a0 (Value.int IntKind.u8 57) (fun t7 w =>
  R (.returned t7) w) w)
  (R (.returned (.bool false)) w)) w
theorem e_ref07_digit (R : Ending → World → Prop) (a0 : Value) (w : World) : vcFn P tab 4000 Tryz.f108.ntmps (Tryz.f108.body.getD .skip) Tryz.f108.results.toList [a0] R w = d_ref07_digit R a0 w := by kernel_rfl
theorem t_ref07_digit (R : Ending → World → Prop) (a0 : Value) (w : World) (h : d_ref07_digit R a0 w) : Tr P F.ref07_digit [a0] w R :=
  fn_ok (fn := Tryz.f108) (c := Tryz.f108.body.getD .skip) (fuel := 4000) mixed tab_ok Tryz.func108 (by kernel_rfl) (by kernel_rfl) (Nat.le_of_ble_eq_true (by kernel_rfl)) (Eq.mpr (e_ref07_digit R a0 w) h)
end Go.Vx
