/- Part 3 of the walk: a calculus of conditions over the model, and contracts of the functions of the program, in their plain form. No claim stands here. -/
import Derived.Test.YtenakfgcdjninaaGreatDoorVm2
import Derived.Laws.Externs
import Derived.Laws.RangeString
import Derived.Lib.Builder
import Derived.Lib.UnsafeStr
set_option linter.unusedVariables false
set_option linter.unusedSimpArgs false
set_option linter.unusedSectionVars false
set_option linter.unnecessarySimpa false
set_option maxRecDepth 100000
set_option linter.unusedVariables false
namespace Go.Vx
open Go Go.Proofs
/-- (*lapidary/tree.parser).body -/
def d_tree_parser_body (R : Ending → World → Prop) (a0 a1 a2 : Value) (w : World) : Prop :=
  sc 0 (fun j1 =>
  jn 0 (fun w =>
  cl P F.tree_parser_kind [a0] (fun t31 w =>
  bI .eql .i64 t31 a2 (fun t33 w =>
  cnd t33
  (R (.returned (.tuple #[])) w)
  (cl P F.tree_parser_statement [a0] (fun t36 w =>
  ex t36 0 (fun t37 w =>
  ex t36 1 (fun t38 w =>
  al [.int .i64 0, .string ⟨#[]⟩, .int .i64 0, .int .i64 0, .slice none 0 0, .slice none 0 0] 50 (fun t6 w =>
  st 6 t6 t37 (fun w =>
  drw w (fun w =>
  (nc a1 (fun t40 w =>
  fa 5 t40 (fun t41 w =>
  ld t41 (fun t42 w =>
  ldn 6 t6 (fun t43 w =>
  lnL t42 (fun t44 w =>
  bs 50 [.int .i64 0, .string ⟨#[]⟩, .int .i64 0, .int .i64 0, .slice none 0 0, .slice none 0 0] 1 [(0, 6, (Value.agg #[(Value.int IntKind.i64 0), (Value.string { data := #[] }), (Value.int IntKind.i64 0), (Value.int IntKind.i64 0), (Value.slice none 0 0), (Value.slice none 0 0)]))] (fun t45 w =>
  rk true t6 t43
  (rk false t41 t42
  (ap 50 6 88 [.int .i64 0, .string ⟨#[]⟩, .int .i64 0, .int .i64 0, .slice none 0 0, .slice none 0 0] t42 t45 (fun t46 w =>
  ia 6 t46 t44 (fun t47 w =>
  nc a1 (fun t48 w =>
  fa 5 t48 (fun t49 w =>
  st 6 t47 t43 (fun w =>
  st 1 t49 t46 (fun w =>
  jn 0 (fun w =>
  cl P F.tree_parser_kind [a0] (fun t58 w =>
  bI .neq .i64 t58 a2 (fun t60 w =>
  cnd t60
  (cl P F.tree_parser_bad [a0, (Value.int IntKind.i64 20)] (fun t62 w =>
  R (.returned (.tuple #[])) w) (fun ch w => R (.panicked ch) w) w)
  (R (.returned (.tuple #[])) w)) w) (fun ch w => R (.panicked ch) w) w) (fun k3 =>
  cl P F.tree_parser_kind [a0] (fun t51 w =>
  bI .eql .i64 t51 (Value.int IntKind.i64 14) (fun t52 w =>
  cnd t52
  (cl P F.tree_parser_take [a0] (fun t54 w =>
  uN t38 (fun t56 w =>
  cnd t56
  (sm [(a0, a0), (a1, a1), (a2, a2)] [] [] (j1 0 [] w))
  (sm [(a0, a0), (a1, a1), (a2, a2)] [] [] (k3 w))) w) (fun ch w => R (.panicked ch) w) w)
  (sm [(a0, a0), (a1, a1), (a2, a2)] [] [] (k3 w))) w) (fun ch w => R (.panicked ch) w) w)) w) w) w) w) w) w) w) w) w) w) w) w) w) w) ∧
  (nc a1 (fun t40 w =>
  fa 5 t40 (fun t41 w =>
  ld t41 (fun t42 w =>
  ldn 6 t6 (fun t43 w =>
  lnL t42 (fun t44 w =>
  bs 50 [.int .i64 0, .string ⟨#[]⟩, .int .i64 0, .int .i64 0, .slice none 0 0, .slice none 0 0] 1 [(0, 6, (Value.agg #[(Value.int IntKind.i64 0), (Value.string { data := #[] }), (Value.int IntKind.i64 0), (Value.int IntKind.i64 0), (Value.slice none 0 0), (Value.slice none 0 0)]))] (fun t45 w =>
  rk true t6 t43
  (rk false t41 t42
  (ap 50 6 88 [.int .i64 0, .string ⟨#[]⟩, .int .i64 0, .int .i64 0, .slice none 0 0, .slice none 0 0] t42 t45 (fun t46 w =>
  ia 6 t46 t44 (fun t47 w =>
  nc a1 (fun t48 w =>
  fa 5 t48 (fun t49 w =>
  st 1 t49 t46 (fun w =>
  st 6 t47 t43 (fun w =>
  jn 0 (fun w =>
  cl P F.tree_parser_kind [a0] (fun t58 w =>
  bI .neq .i64 t58 a2 (fun t60 w =>
  cnd t60
  (cl P F.tree_parser_bad [a0, (Value.int IntKind.i64 20)] (fun t62 w =>
  R (.returned (.tuple #[])) w) (fun ch w => R (.panicked ch) w) w)
  (R (.returned (.tuple #[])) w)) w) (fun ch w => R (.panicked ch) w) w) (fun k4 =>
  cl P F.tree_parser_kind [a0] (fun t51 w =>
  bI .eql .i64 t51 (Value.int IntKind.i64 14) (fun t52 w =>
  cnd t52
  (cl P F.tree_parser_take [a0] (fun t54 w =>
  uN t38 (fun t56 w =>
  cnd t56
  (sm [(a0, a0), (a1, a1), (a2, a2)] [] [] (j1 0 [] w))
  (sm [(a0, a0), (a1, a1), (a2, a2)] [] [] (k4 w))) w) (fun ch w => R (.panicked ch) w) w)
  (sm [(a0, a0), (a1, a1), (a2, a2)] [] [] (k4 w))) w) (fun ch w => R (.panicked ch) w) w)) w) w) w) w) w) w) w) w) w) w) w) w) w) w))) w) w) w) w) (fun ch w => R (.panicked ch) w) w)) w) (fun ch w => R (.panicked ch) w) w) (fun k2 =>
  cl P F.tree_parser_kind [a0] (fun t9 w =>
  bI .eql .i64 t9 (Value.int IntKind.i64 12) (fun t10 w =>
  cnd t10
  (cl P F.tree_parser_take [a0] (fun t12 w =>
  lp 0 [] (fun r5 w =>
  cl P F.tree_parser_kind [a0] (fun t14 w =>
  bI .eql .i64 t14 (Value.int IntKind.i64 1) (fun t15 w =>
  cnd t15
  (drw w (fun w =>
  nc a1 (fun t18 w =>
  fa 4 t18 (fun t19 w =>
  ld t19 (fun t20 w =>
  cl P F.tree_parser_take [a0] (fun t22 w =>
  rk false t19 t20
  (fl false 1 1 t22 (fun t23 w =>
  bs 9 [.string ⟨#[]⟩] 1 [(0, 1, t23)] (fun t24 w =>
  rk false t19 t20
  (ap 9 1 16 [.string ⟨#[]⟩] t20 t24 (fun t25 w =>
  nc a1 (fun t26 w =>
  fa 4 t26 (fun t27 w =>
  st 1 t27 t25 (fun w =>
  sm [(a0, a0), (a1, a1), (a2, a2)] [] [] (r5 [] w)) w) w) w) w) w) w) w) w) (fun ch w => R (.panicked ch) w) w) w) w) w))
  (cl P F.tree_parser_need [a0, (Value.int IntKind.i64 12)] (fun t29 w =>
  sm [(a0, a0), (a1, a1), (a2, a2)] [] [] (k2 w)) (fun ch w => R (.panicked ch) w) w)) w) (fun ch w => R (.panicked ch) w) w) w) (fun ch w => R (.panicked ch) w) w)
  (sm [(a0, a0), (a1, a1), (a2, a2)] [] [] (k2 w))) w) (fun ch w => R (.panicked ch) w) w)) [(0, fun j1 w =>
  cl P F.tree_parser_kind [a0] (fun t31 w =>
  bI .eql .i64 t31 a2 (fun t33 w =>
  cnd t33
  (R (.returned (.tuple #[])) w)
  (cl P F.tree_parser_statement [a0] (fun t36 w =>
  ex t36 0 (fun t37 w =>
  ex t36 1 (fun t38 w =>
  al [.int .i64 0, .string ⟨#[]⟩, .int .i64 0, .int .i64 0, .slice none 0 0, .slice none 0 0] 50 (fun t6 w =>
  st 6 t6 t37 (fun w =>
  drw w (fun w =>
  (nc a1 (fun t40 w =>
  fa 5 t40 (fun t41 w =>
  ld t41 (fun t42 w =>
  ldn 6 t6 (fun t43 w =>
  lnL t42 (fun t44 w =>
  bs 50 [.int .i64 0, .string ⟨#[]⟩, .int .i64 0, .int .i64 0, .slice none 0 0, .slice none 0 0] 1 [(0, 6, (Value.agg #[(Value.int IntKind.i64 0), (Value.string { data := #[] }), (Value.int IntKind.i64 0), (Value.int IntKind.i64 0), (Value.slice none 0 0), (Value.slice none 0 0)]))] (fun t45 w =>
  rk true t6 t43
  (rk false t41 t42
  (ap 50 6 88 [.int .i64 0, .string ⟨#[]⟩, .int .i64 0, .int .i64 0, .slice none 0 0, .slice none 0 0] t42 t45 (fun t46 w =>
  ia 6 t46 t44 (fun t47 w =>
  nc a1 (fun t48 w =>
  fa 5 t48 (fun t49 w =>
  st 6 t47 t43 (fun w =>
  st 1 t49 t46 (fun w =>
  jn 0 (fun w =>
  cl P F.tree_parser_kind [a0] (fun t58 w =>
  bI .neq .i64 t58 a2 (fun t60 w =>
  cnd t60
  (cl P F.tree_parser_bad [a0, (Value.int IntKind.i64 20)] (fun t62 w =>
  R (.returned (.tuple #[])) w) (fun ch w => R (.panicked ch) w) w)
  (R (.returned (.tuple #[])) w)) w) (fun ch w => R (.panicked ch) w) w) (fun k6 =>
  cl P F.tree_parser_kind [a0] (fun t51 w =>
  bI .eql .i64 t51 (Value.int IntKind.i64 14) (fun t52 w =>
  cnd t52
  (cl P F.tree_parser_take [a0] (fun t54 w =>
  uN t38 (fun t56 w =>
  cnd t56
  (sm [(a0, a0), (a1, a1), (a2, a2)] [] [] (j1 0 [] w))
  (sm [(a0, a0), (a1, a1), (a2, a2)] [] [] (k6 w))) w) (fun ch w => R (.panicked ch) w) w)
  (sm [(a0, a0), (a1, a1), (a2, a2)] [] [] (k6 w))) w) (fun ch w => R (.panicked ch) w) w)) w) w) w) w) w) w) w) w) w) w) w) w) w) w) ∧
  (nc a1 (fun t40 w =>
  fa 5 t40 (fun t41 w =>
  ld t41 (fun t42 w =>
  ldn 6 t6 (fun t43 w =>
  lnL t42 (fun t44 w =>
  bs 50 [.int .i64 0, .string ⟨#[]⟩, .int .i64 0, .int .i64 0, .slice none 0 0, .slice none 0 0] 1 [(0, 6, (Value.agg #[(Value.int IntKind.i64 0), (Value.string { data := #[] }), (Value.int IntKind.i64 0), (Value.int IntKind.i64 0), (Value.slice none 0 0), (Value.slice none 0 0)]))] (fun t45 w =>
  rk true t6 t43
  (rk false t41 t42
  (ap 50 6 88 [.int .i64 0, .string ⟨#[]⟩, .int .i64 0, .int .i64 0, .slice none 0 0, .slice none 0 0] t42 t45 (fun t46 w =>
  ia 6 t46 t44 (fun t47 w =>
  nc a1 (fun t48 w =>
  fa 5 t48 (fun t49 w =>
  st 1 t49 t46 (fun w =>
  st 6 t47 t43 (fun w =>
  jn 0 (fun w =>
  cl P F.tree_parser_kind [a0] (fun t58 w =>
  bI .neq .i64 t58 a2 (fun t60 w =>
  cnd t60
  (cl P F.tree_parser_bad [a0, (Value.int IntKind.i64 20)] (fun t62 w =>
  R (.returned (.tuple #[])) w) (fun ch w => R (.panicked ch) w) w)
  (R (.returned (.tuple #[])) w)) w) (fun ch w => R (.panicked ch) w) w) (fun k7 =>
  cl P F.tree_parser_kind [a0] (fun t51 w =>
  bI .eql .i64 t51 (Value.int IntKind.i64 14) (fun t52 w =>
  cnd t52
  (cl P F.tree_parser_take [a0] (fun t54 w =>
  uN t38 (fun t56 w =>
  cnd t56
  (sm [(a0, a0), (a1, a1), (a2, a2)] [] [] (j1 0 [] w))
  (sm [(a0, a0), (a1, a1), (a2, a2)] [] [] (k7 w))) w) (fun ch w => R (.panicked ch) w) w)
  (sm [(a0, a0), (a1, a1), (a2, a2)] [] [] (k7 w))) w) (fun ch w => R (.panicked ch) w) w)) w) w) w) w) w) w) w) w) w) w) w) w) w) w))) w) w) w) w) (fun ch w => R (.panicked ch) w) w)) w) (fun ch w => R (.panicked ch) w) w)]
theorem e_tree_parser_body (R : Ending → World → Prop) (a0 a1 a2 : Value) (w : World) : vcFn P tab 4000 Tryz.f40.ntmps (Tryz.f40.body.getD .skip) Tryz.f40.results.toList [a0, a1, a2] R w = d_tree_parser_body R a0 a1 a2 w := by kernel_rfl
theorem t_tree_parser_body (R : Ending → World → Prop) (a0 a1 a2 : Value) (w : World) (h : d_tree_parser_body R a0 a1 a2 w) : Tr P F.tree_parser_body [a0, a1, a2] w R :=
  fn_ok (fn := Tryz.f40) (c := Tryz.f40.body.getD .skip) (fuel := 4000) mixed tab_ok Tryz.func40 (by kernel_rfl) (by kernel_rfl) (Nat.le_of_ble_eq_true (by kernel_rfl)) (Eq.mpr (e_tree_parser_body R a0 a1 a2 w) h)
/-- lapidary/scope.Resolve$1 -/
def d_scope_Resolve_1 (rv : Value) (R : Ending → World → Prop) (a0 a1 a2 : Value) (w : World) : Prop :=
  rV P (eqRun .eql 20 (Operand.tmp 6) (Operand.const Value.nilIface) rv Value.nilIface) (fun t8 w =>
  cnd t8
  (R (.returned (.tuple #[])) w)
  (rV P (Instr.typeAssert rv 20 104 true) (fun t9 w =>
  ex t9 1 (fun t10 w =>
  ex t9 0 (fun t11 w =>
  cnd t10
  (al [.int .i64 0] 104 (fun t4 w =>
  st 1 t4 t11 (fun w =>
  drw w (fun w =>
  fa 0 t4 (fun t12 w =>
  ld t12 (fun t13 w =>
  st 1 a0 (Value.slice none 0 0) (fun w =>
  rk false t12 t13
  (st 1 a1 t13 (fun w =>
  st 1 a2 (Value.int IntKind.i64 21) (fun w =>
  R (.returned (.tuple #[])) w) w) w) w) w) w) w)) w) w)
  (pn rv (fun ch w => R (.panicked ch) w) w)) w) w) w)) w
theorem e_scope_Resolve_1 (rv : Value) (R : Ending → World → Prop) (a0 a1 a2 : Value) (w : World) : vcRec P tab 4000 Tryz.f41.ntmps 6 (match Tryz.f41.body with | some (.seq _ c) => c | _ => .skip) Tryz.f41.results.toList [a0, a1, a2] rv R w = d_scope_Resolve_1 rv R a0 a1 a2 w := by kernel_rfl
theorem t_scope_Resolve_1 {R : Ending → FrameMode → World → Prop} {u : FrameMode} {a0 a1 a2 : Value} {w : World} (h : d_scope_Resolve_1 (recV u).1 (fun e w' => R e (recV u).2 w') a0 a1 a2 w) : CallsD P F.scope_Resolve_1 #[a0, a1, a2] u w R :=
  rec_ok (fn := Tryz.f41) (c := (match Tryz.f41.body with | some (.seq _ c) => c | _ => .skip)) (fuel := 4000) (id := 0) (d := 6) (o := (match Tryz.f41.body with | some (.seq (.region _ ops _) _) => ops[0]! | _ => default)) mixed tab_ok Tryz.func41 (by kernel_rfl) (by kernel_rfl) (by kernel_rfl) (by kernel_rfl) (Nat.le_of_ble_eq_true (by kernel_rfl)) (args := [a0, a1, a2]) (Nat.le_of_ble_eq_true (by kernel_rfl)) (Eq.mpr (e_scope_Resolve_1 _ _ a0 a1 a2 w) h)
theorem n_scope_Resolve_1 : Enter P F.scope_Resolve_1 := ⟨Tryz.f41, Tryz.func41, by kernel_rfl, by kernel_rfl⟩
/-- (*lapidary/scope.walk).unit -/
def d_scope_walk_unit (R : Ending → World → Prop) (a0 a1 a2 : Value) (w : World) : Prop :=
  al a1.cells.toList 50 (fun t4 w =>
  ldn 6 t4 (fun t13 w =>
  bd [.int .i64 0, .string ⟨#[]⟩, .int .i64 0, .int .i64 0, .slice none 0 0, .slice none 0 0, .pointer none] [(0, 6, t13), (6, 1, a2)] (fun t15 w =>
  al t15.cells.toList 144 (fun t16 w =>
  nc t16 (fun t18 w =>
  fa 0 t18 (fun t19 w =>
  fa 4 t19 (fun t20 w =>
  ld t20 (fun t21 w =>
  lnL t21 (fun t22 w =>
  lp 1 [(Value.int IntKind.i64 0)] (fun r1 x23 w =>
  bI .lss .i64 x23 t22 (fun t24 w =>
  cnd t24
  (ia 1 t21 x23 (fun t26 w =>
  ld t26 (fun t27 w =>
  cl P F.scope_fixed [t27] (fun t30 w =>
  ex t30 0 (fun t31 w =>
  ex t30 1 (fun t32 w =>
  al [.int .i64 0, .string ⟨#[]⟩, .int .i64 0, .int .i64 0, .int .i64 0, .bool false] 146 (fun t9 w =>
  st 6 t9 t31 (fun w =>
  jn 10 (fun x35 x36 x37 x38 x39 x40 x41 x42 x43 x44 w =>
  cnd x44
  (nc t16 (fun t46 w =>
  fa 0 t46 (fun t47 w =>
  fa 2 t47 (fun t48 w =>
  ld t48 (fun t49 w =>
  bd [.int .i64 0] [(0, 1, t49)] (fun t50 w =>
  pn (.iface 104 t50) (fun ch w => R (.panicked ch) w) w) w) w) w) w) w)
  (bI .add .i64 x23 (Value.int IntKind.i64 1) (fun t52 w =>
  sm [(a0, a0), (t16, t16), (t21, t21), (t22, t22)] [] [] (r1 [t52] w)) w)) (fun k2 =>
  cnd t32
  (sm [(a0, a0), (t16, t16), (t21, t21), (t22, t22), (x23, x23)] [] [] (k2 undef undef undef undef undef undef undef undef undef (.bool true) w))
  (nc t16 (fun t36 w =>
  fa 0 t36 (fun t37 w =>
  fa 4 t37 (fun t38 w =>
  ld t38 (fun t39 w =>
  slL 1 t39 none (some x23) none (fun t41 w =>
  cl P F.slices_Contains_string_string [t41, t27] (fun t43 w =>
  sm [(a0, a0), (t16, t16), (t21, t21), (t22, t22), (x23, x23)] [] [] (k2 t16 t36 t37 t38 t39 x23 t41 t27 t43 t43 w)) (fun ch w => R (.panicked ch) w) w) w) w) w) w) w))) w) w) w) w) (fun ch w => R (.panicked ch) w) w) w) w)
  (nc t16 (fun t54 w =>
  fa 0 t54 (fun t55 w =>
  fa 5 t55 (fun t56 w =>
  ld t56 (fun t57 w =>
  lnL t57 (fun t58 w =>
  lp 1 [(Value.int IntKind.i64 0)] (fun r3 x59 w =>
  bI .lss .i64 x59 t58 (fun t60 w =>
  cnd t60
  (ia 6 t57 x59 (fun t61 w =>
  ldn 6 t61 (fun t62 w =>
  al [.int .i64 0, .string ⟨#[]⟩, .int .i64 0, .int .i64 0, .slice none 0 0, .slice none 0 0] 50 (fun t12 w =>
  st 6 t12 t62 (fun w =>
  ldn 6 t12 (fun t64 w =>
  cl P F.scope_walk_part [a0, t64, t16, (.bool false)] (fun t66 w =>
  bI .add .i64 x59 (Value.int IntKind.i64 1) (fun t67 w =>
  sm [(a0, a0), (t16, t16), (t57, t57), (t58, t58)] [] [] (r3 [t67] w)) w) (fun ch w => R (.panicked ch) w) w) w) w) w) w) w)
  (R (.returned (.tuple #[])) w)) w) w) w) w) w) w) w)) w) w) w) w) w) w) w) w) w) w) w
theorem e_scope_walk_unit (R : Ending → World → Prop) (a0 a1 a2 : Value) (w : World) : vcFn P tab 4000 Tryz.f42.ntmps (Tryz.f42.body.getD .skip) Tryz.f42.results.toList [a0, a1, a2] R w = d_scope_walk_unit R a0 a1 a2 w := by kernel_rfl
theorem t_scope_walk_unit (R : Ending → World → Prop) (a0 a1 a2 : Value) (w : World) (h : d_scope_walk_unit R a0 a1 a2 w) : Tr P F.scope_walk_unit [a0, a1, a2] w R :=
  fn_ok (fn := Tryz.f42) (c := Tryz.f42.body.getD .skip) (fuel := 4000) mixed tab_ok Tryz.func42 (by kernel_rfl) (by kernel_rfl) (Nat.le_of_ble_eq_true (by kernel_rfl)) (Eq.mpr (e_scope_walk_unit R a0 a1 a2 w) h)
/-- (*lapidary/code.maker).add -/
def d_code_maker_add (R : Ending → World → Prop) (a0 a1 a2 a3 a4 : Value) (w : World) : Prop :=
  drw w (fun w =>
  nc a0 (fun t11 w =>
  fa 0 t11 (fun t12 w =>
  fa 1 t12 (fun t13 w =>
  ld t13 (fun t14 w =>
  nc a0 (fun t17 w =>
  fa 0 t17 (fun t18 w =>
  fa 1 t18 (fun t19 w =>
  ld t19 (fun t20 w =>
  ia 3 t20 a1 (fun t22 w =>
  fa 2 t22 (fun t23 w =>
  ld t23 (fun t24 w =>
  bd [.int .i64 0, .int .i64 0, .int .i64 0] [(0, 1, a2), (1, 1, a3), (2, 1, a4)] (fun t28 w =>
  bs 57 [.int .i64 0, .int .i64 0, .int .i64 0] 1 [(0, 3, t28)] (fun t29 w =>
  rk false t23 t24
  (rk false t19 t20
  (rk false t13 t14
  (ap 57 3 24 [.int .i64 0, .int .i64 0, .int .i64 0] t24 t29 (fun t30 w =>
  rk false t13 t14
  (ia 3 t14 a1 (fun t31 w =>
  fa 2 t31 (fun t32 w =>
  st 1 t32 t30 (fun w =>
  R (.returned (.tuple #[])) w) w) w) w) w) w) w) w) w) w) w) w) w) w) w) w) w) w) w) w) w) w)
theorem e_code_maker_add (R : Ending → World → Prop) (a0 a1 a2 a3 a4 : Value) (w : World) : vcFn P tab 4000 Tryz.f43.ntmps (Tryz.f43.body.getD .skip) Tryz.f43.results.toList [a0, a1, a2, a3, a4] R w = d_code_maker_add R a0 a1 a2 a3 a4 w := by kernel_rfl
theorem t_code_maker_add (R : Ending → World → Prop) (a0 a1 a2 a3 a4 : Value) (w : World) (h : d_code_maker_add R a0 a1 a2 a3 a4 w) : Tr P F.code_maker_add [a0, a1, a2, a3, a4] w R :=
  fn_ok (fn := Tryz.f43) (c := Tryz.f43.body.getD .skip) (fuel := 4000) mixed tab_ok Tryz.func43 (by kernel_rfl) (by kernel_rfl) (Nat.le_of_ble_eq_true (by kernel_rfl)) (Eq.mpr (e_code_maker_add R a0 a1 a2 a3 a4 w) h)
/-- (*lapidary/code.maker).part -/
def d_code_maker_part (R : Ending → World → Prop) (a0 a1 a2 : Value) (w : World) : Prop :=
  al a2.cells.toList 50 (fun t5 w =>
  fa 0 t5 (fun t10 w =>
  ld t10 (fun t11 w =>
  jn 1 (fun x12 w =>
  cnd x12
  (drw w (fun w =>
  nc a0 (fun t20 w =>
  fa 0 t20 (fun t21 w =>
  fa 2 t21 (fun t22 w =>
  ldn 6 t5 (fun t23 w =>
  cl P F.tree_Text [t23] (fun t24 w =>
  cl P F.code_once [t22, t24] (fun t25 w =>
  cl P F.code_maker_add [a0, a1, (Value.int IntKind.i64 0), t25, (Value.int IntKind.i64 0)] (fun t26 w =>
  R (.returned (.tuple #[])) w) (fun ch w => R (.panicked ch) w) w) (fun ch w => R (.panicked ch) w) w) (fun ch w => R (.panicked ch) w) w) w) w) w) w))
  (bI .eql .i64 t11 (Value.int IntKind.i64 5) (fun t28 w =>
  cnd t28
  (cl P F.code_maker_name [a0, a1] (fun t31 w =>
  R (.returned (.tuple #[])) w) (fun ch w => R (.panicked ch) w) w)
  (bI .eql .i64 t11 (Value.int IntKind.i64 6) (fun t33 w =>
  cnd t33
  (cl P F.code_maker_use [a0] (fun t35 w =>
  al [.int .i64 0, .string ⟨#[]⟩, .int .i64 0, .int .i64 0, .int .i64 0, .bool false] 146 (fun t6 w =>
  st 6 t6 t35 (fun w =>
  fa 5 t5 (fun t38 w =>
  ld t38 (fun t39 w =>
  ia 6 t39 (Value.int IntKind.i64 0) (fun t40 w =>
  ldn 6 t40 (fun t41 w =>
  cl P F.code_maker_part [a0, a1, t41] (fun t42 w =>
  fa 2 t6 (fun t43 w =>
  ld t43 (fun t44 w =>
  bI .eql .i64 t44 (Value.int IntKind.i64 3) (fun t45 w =>
  cnd t45
  (fa 3 t6 (fun t48 w =>
  ld t48 (fun t49 w =>
  fa 4 t6 (fun t50 w =>
  ld t50 (fun t51 w =>
  cl P F.code_maker_add [a0, a1, (Value.int IntKind.i64 2), t49, t51] (fun t52 w =>
  R (.returned (.tuple #[])) w) (fun ch w => R (.panicked ch) w) w) w) w) w) w)
  (fa 4 t6 (fun t55 w =>
  ld t55 (fun t56 w =>
  cl P F.code_maker_add [a0, a1, (Value.int IntKind.i64 4), t56, (Value.int IntKind.i64 0)] (fun t57 w =>
  R (.returned (.tuple #[])) w) (fun ch w => R (.panicked ch) w) w) w) w)) w) w) w) (fun ch w => R (.panicked ch) w) w) w) w) w) w) w) w) (fun ch w => R (.panicked ch) w) w)
  (bI .eql .i64 t11 (Value.int IntKind.i64 7) (fun t59 w =>
  cnd t59
  (fa 5 t5 (fun t62 w =>
  ld t62 (fun t63 w =>
  ia 6 t63 (Value.int IntKind.i64 0) (fun t64 w =>
  ldn 6 t64 (fun t65 w =>
  cl P F.code_maker_part [a0, a1, t65] (fun t66 w =>
  drw w (fun w =>
  fa 5 t5 (fun t69 w =>
  ld t69 (fun t70 w =>
  ia 6 t70 (Value.int IntKind.i64 0) (fun t71 w =>
  ldn 6 t71 (fun t72 w =>
  fa 1 t5 (fun t73 w =>
  ld t73 (fun t74 w =>
  fa 5 t5 (fun t75 w =>
  ld t75 (fun t76 w =>
  slL 6 t76 (some (Value.int IntKind.i64 1)) none none (fun t77 w =>
  cl P F.code_maker_send [a0, a1, t72, t74, t77] (fun t78 w =>
  R (.returned (.tuple #[])) w) (fun ch w => R (.panicked ch) w) w) w) w) w) w) w) w) w) w) w)) (fun ch w => R (.panicked ch) w) w) w) w) w) w)
  (bI .eql .i64 t11 (Value.int IntKind.i64 8) (fun t80 w =>
  cnd t80
  (fa 5 t5 (fun t83 w =>
  ld t83 (fun t84 w =>
  ia 6 t84 (Value.int IntKind.i64 0) (fun t85 w =>
  ldn 6 t85 (fun t86 w =>
  cl P F.code_maker_part [a0, a1, t86] (fun t87 w =>
  fa 5 t5 (fun t88 w =>
  ld t88 (fun t89 w =>
  lnL t89 (fun t90 w =>
  bI .sub .i64 t90 (Value.int IntKind.i64 1) (fun t91 w =>
  fa 5 t5 (fun t92 w =>
  ld t92 (fun t93 w =>
  slL 6 t93 (some (Value.int IntKind.i64 1)) (some t91) none (fun t95 w =>
  lnL t95 (fun t96 w =>
  lp 1 [(Value.int IntKind.i64 0)] (fun r2 x97 w =>
  bI .lss .i64 x97 t96 (fun t98 w =>
  cnd t98
  (ia 6 t95 x97 (fun t99 w =>
  ldn 6 t99 (fun t100 w =>
  al [.int .i64 0, .string ⟨#[]⟩, .int .i64 0, .int .i64 0, .slice none 0 0, .slice none 0 0] 50 (fun t9 w =>
  st 6 t9 t100 (fun w =>
  cl P F.code_maker_add [a0, a1, (Value.int IntKind.i64 11), (Value.int IntKind.i64 0), (Value.int IntKind.i64 0)] (fun t103 w =>
  drw w (fun w =>
  fa 5 t5 (fun t106 w =>
  ld t106 (fun t107 w =>
  ia 6 t107 (Value.int IntKind.i64 0) (fun t108 w =>
  ldn 6 t108 (fun t109 w =>
  fa 1 t9 (fun t110 w =>
  ld t110 (fun t111 w =>
  fa 5 t9 (fun t112 w =>
  ld t112 (fun t113 w =>
  cl P F.code_maker_send [a0, a1, t109, t111, t113] (fun t114 w =>
  cl P F.code_maker_add [a0, a1, (Value.int IntKind.i64 12), (Value.int IntKind.i64 0), (Value.int IntKind.i64 0)] (fun t117 w =>
  bI .add .i64 x97 (Value.int IntKind.i64 1) (fun t118 w =>
  sm [(a0, a0), (a1, a1), (t5, t5), (t91, t91), (t95, t95), (t96, t96)] [] [] (r2 [t118] w)) w) (fun ch w => R (.panicked ch) w) w) (fun ch w => R (.panicked ch) w) w) w) w) w) w) w) w) w) w)) (fun ch w => R (.panicked ch) w) w) w) w) w) w)
  (drw w (fun w =>
  fa 5 t5 (fun t121 w =>
  ld t121 (fun t122 w =>
  ia 6 t122 (Value.int IntKind.i64 0) (fun t123 w =>
  ldn 6 t123 (fun t124 w =>
  fa 5 t5 (fun t125 w =>
  ld t125 (fun t126 w =>
  ia 6 t126 t91 (fun t128 w =>
  fa 1 t128 (fun t129 w =>
  ld t129 (fun t130 w =>
  fa 5 t5 (fun t131 w =>
  ld t131 (fun t132 w =>
  ia 6 t132 t91 (fun t134 w =>
  fa 5 t134 (fun t135 w =>
  ld t135 (fun t136 w =>
  cl P F.code_maker_send [a0, a1, t124, t130, t136] (fun t137 w =>
  R (.returned (.tuple #[])) w) (fun ch w => R (.panicked ch) w) w) w) w) w) w) w) w) w) w) w) w) w) w) w) w))) w) w) w) w) w) w) w) w) w) w) (fun ch w => R (.panicked ch) w) w) w) w) w) w)
  (bI .eql .i64 t11 (Value.int IntKind.i64 10) (fun t139 w =>
  cnd t139
  (nc a0 (fun t143 w =>
  fa 0 t143 (fun t144 w =>
  fa 1 t144 (fun t145 w =>
  ld t145 (fun t146 w =>
  lnL t146 (fun t147 w =>
  cl P F.code_maker_add [a0, a1, (Value.int IntKind.i64 10), t147, (Value.int IntKind.i64 0)] (fun t148 w =>
  ldn 6 t5 (fun t150 w =>
  cl P F.code_maker_unit [a0, t150] (fun t151 w =>
  R (.returned (.tuple #[])) w) (fun ch w => R (.panicked ch) w) w) w) (fun ch w => R (.panicked ch) w) w) w) w) w) w) w)
  (R (.returned (.tuple #[])) w)) w)) w)) w)) w)) w)) (fun k1 =>
  bI .eql .i64 t11 (Value.int IntKind.i64 1) (fun t13 w =>
  cnd t13
  (sm [(a0, a0), (a1, a1), (t5, t5), (t11, t11)] [] [] (k1 t13 w))
  (bI .eql .i64 t11 (Value.int IntKind.i64 2) (fun t14 w =>
  cnd t14
  (sm [(a0, a0), (a1, a1), (t5, t5), (t11, t11)] [] [] (k1 t14 w))
  (bI .eql .i64 t11 (Value.int IntKind.i64 3) (fun t15 w =>
  cnd t15
  (sm [(a0, a0), (a1, a1), (t5, t5), (t11, t11)] [] [] (k1 t15 w))
  (bI .eql .i64 t11 (Value.int IntKind.i64 4) (fun t16 w =>
  sm [(a0, a0), (a1, a1), (t5, t5), (t11, t11)] [] [] (k1 t16 w)) w)) w)) w)) w)) w) w) w
theorem e_code_maker_part (R : Ending → World → Prop) (a0 a1 a2 : Value) (w : World) : vcFn P tab 4000 Tryz.f44.ntmps (Tryz.f44.body.getD .skip) Tryz.f44.results.toList [a0, a1, a2] R w = d_code_maker_part R a0 a1 a2 w := by kernel_rfl
theorem t_code_maker_part (R : Ending → World → Prop) (a0 a1 a2 : Value) (w : World) (h : d_code_maker_part R a0 a1 a2 w) : Tr P F.code_maker_part [a0, a1, a2] w R :=
  fn_ok (fn := Tryz.f44) (c := Tryz.f44.body.getD .skip) (fuel := 4000) mixed tab_ok Tryz.func44 (by kernel_rfl) (by kernel_rfl) (Nat.le_of_ble_eq_true (by kernel_rfl)) (Eq.mpr (e_code_maker_part R a0 a1 a2 w) h)
/-- (*lapidary/tree.parser).need -/
def d_tree_parser_need (R : Ending → World → Prop) (a0 a1 : Value) (w : World) : Prop :=
  al [.int .i64 0, .string ⟨#[]⟩, .int .i64 0] 112 (fun t4 w =>
  cl P F.tree_parser_kind [a0] (fun t6 w =>
  bI .neq .i64 t6 a1 (fun t8 w =>
  cnd t8
  (cl P F.tree_parser_bad [a0, (Value.int IntKind.i64 20)] (fun t10 w =>
  cl P F.tree_parser_take [a0] (fun t12 w =>
  st 3 t4 t12 (fun w =>
  ldn 3 t4 (fun r0 w =>
  R (.returned r0) w) w) w) (fun ch w => R (.panicked ch) w) w) (fun ch w => R (.panicked ch) w) w)
  (cl P F.tree_parser_take [a0] (fun t12 w =>
  st 3 t4 t12 (fun w =>
  ldn 3 t4 (fun r0 w =>
  R (.returned r0) w) w) w) (fun ch w => R (.panicked ch) w) w)) w) (fun ch w => R (.panicked ch) w) w) w
theorem e_tree_parser_need (R : Ending → World → Prop) (a0 a1 : Value) (w : World) : vcFn P tab 4000 Tryz.f46.ntmps (Tryz.f46.body.getD .skip) Tryz.f46.results.toList [a0, a1] R w = d_tree_parser_need R a0 a1 w := by kernel_rfl
theorem t_tree_parser_need (R : Ending → World → Prop) (a0 a1 : Value) (w : World) (h : d_tree_parser_need R a0 a1 w) : Tr P F.tree_parser_need [a0, a1] w R :=
  fn_ok (fn := Tryz.f46) (c := Tryz.f46.body.getD .skip) (fuel := 4000) mixed tab_ok Tryz.func46 (by kernel_rfl) (by kernel_rfl) (Nat.le_of_ble_eq_true (by kernel_rfl)) (Eq.mpr (e_tree_parser_need R a0 a1 w) h)
/-- (*lapidary/tree.parser).take -/
def d_tree_parser_take (R : Ending → World → Prop) (a0 : Value) (w : World) : Prop :=
  al [.int .i64 0, .string ⟨#[]⟩, .int .i64 0] 112 (fun t2 w =>
  nc a0 (fun t5 w =>
  fa 0 t5 (fun t6 w =>
  ld t6 (fun t7 w =>
  ia 3 t7 (Value.int IntKind.i64 0) (fun t8 w =>
  ldn 3 t8 (fun t9 w =>
  al [.int .i64 0, .string ⟨#[]⟩, .int .i64 0] 112 (fun t3 w =>
  st 3 t3 t9 (fun w =>
  fa 0 t3 (fun t10 w =>
  ld t10 (fun t11 w =>
  bI .neq .i64 t11 (Value.int IntKind.i64 0) (fun t12 w =>
  cnd t12
  (nc a0 (fun t15 w =>
  fa 0 t15 (fun t16 w =>
  ld t16 (fun t17 w =>
  slL 3 t17 (some (Value.int IntKind.i64 1)) none none (fun t18 w =>
  nc a0 (fun t19 w =>
  fa 0 t19 (fun t20 w =>
  st 1 t20 t18 (fun w =>
  ldn 3 t3 (fun t21 w =>
  st 3 t2 t21 (fun w =>
  ldn 3 t2 (fun r0 w =>
  R (.returned r0) w) w) w) w) w) w) w) w) w) w) w)
  (ldn 3 t3 (fun t21 w =>
  st 3 t2 t21 (fun w =>
  ldn 3 t2 (fun r0 w =>
  R (.returned r0) w) w) w) w)) w) w) w) w) w) w) w) w) w) w) w
theorem e_tree_parser_take (R : Ending → World → Prop) (a0 : Value) (w : World) : vcFn P tab 4000 Tryz.f47.ntmps (Tryz.f47.body.getD .skip) Tryz.f47.results.toList [a0] R w = d_tree_parser_take R a0 w := by kernel_rfl
theorem t_tree_parser_take (R : Ending → World → Prop) (a0 : Value) (w : World) (h : d_tree_parser_take R a0 w) : Tr P F.tree_parser_take [a0] w R :=
  fn_ok (fn := Tryz.f47) (c := Tryz.f47.body.getD .skip) (fuel := 4000) mixed tab_ok Tryz.func47 (by kernel_rfl) (by kernel_rfl) (Nat.le_of_ble_eq_true (by kernel_rfl)) (Eq.mpr (e_tree_parser_take R a0 w) h)
/-- (*lapidary/tree.parser).kind -/
def d_tree_parser_kind (R : Ending → World → Prop) (a0 : Value) (w : World) : Prop :=
  nc a0 (fun t4 w =>
  fa 0 t4 (fun t5 w =>
  ld t5 (fun t6 w =>
  ia 3 t6 (Value.int IntKind.i64 0) (fun t7 w =>
  fa 0 t7 (fun t8 w =>
  ld t8 (fun t9 w =>
  R (.returned t9) w) w) w) w) w) w) w
theorem e_tree_parser_kind (R : Ending → World → Prop) (a0 : Value) (w : World) : vcFn P tab 4000 Tryz.f48.ntmps (Tryz.f48.body.getD .skip) Tryz.f48.results.toList [a0] R w = d_tree_parser_kind R a0 w := by kernel_rfl
theorem t_tree_parser_kind (R : Ending → World → Prop) (a0 : Value) (w : World) (h : d_tree_parser_kind R a0 w) : Tr P F.tree_parser_kind [a0] w R :=
  fn_ok (fn := Tryz.f48) (c := Tryz.f48.body.getD .skip) (fuel := 4000) mixed tab_ok Tryz.func48 (by kernel_rfl) (by kernel_rfl) (Nat.le_of_ble_eq_true (by kernel_rfl)) (Eq.mpr (e_tree_parser_kind R a0 w) h)
/-- (*lapidary/lex.reader).skip -/
def d_lex_reader_skip (R : Ending → World → Prop) (a0 a1 : Value) (w : World) : Prop :=
  lp 0 [] (fun r1 w =>
  cl P F.lex_reader_more [a0, a1] (fun t6 w =>
  cnd t6
  (nc a0 (fun t8 w =>
  fa 1 t8 (fun t9 w =>
  ld t9 (fun t10 w =>
  bI .add .i64 t10 (Value.int IntKind.i64 1) (fun t11 w =>
  nc a0 (fun t12 w =>
  fa 1 t12 (fun t13 w =>
  st 1 t13 t11 (fun w =>
  sm [(a0, a0), (a1, a1)] [] [] (r1 [] w)) w) w) w) w) w) w) w)
  (R (.returned (.tuple #[])) w)) (fun ch w => R (.panicked ch) w) w) w
theorem e_lex_reader_skip (R : Ending → World → Prop) (a0 a1 : Value) (w : World) : vcFn P tab 4000 Tryz.f59.ntmps (Tryz.f59.body.getD .skip) Tryz.f59.results.toList [a0, a1] R w = d_lex_reader_skip R a0 a1 w := by kernel_rfl
theorem t_lex_reader_skip (R : Ending → World → Prop) (a0 a1 : Value) (w : World) (h : d_lex_reader_skip R a0 a1 w) : Tr P F.lex_reader_skip [a0, a1] w R :=
  fn_ok (fn := Tryz.f59) (c := Tryz.f59.body.getD .skip) (fuel := 4000) mixed tab_ok Tryz.func59 (by kernel_rfl) (by kernel_rfl) (Nat.le_of_ble_eq_true (by kernel_rfl)) (Eq.mpr (e_lex_reader_skip R a0 a1 w) h)
/-- lapidary/lex.Read$1 -/
def d_lex_Read_1 (R : Ending → World → Prop) (a0 : Value) (w : World) : Prop :=
  cl P F.lex_place [a0, (Value.string { data := #[32, 9, 10, 13] })] (fun t4 w =>
  bI .geq .i64 t4 (Value.int IntKind.i64 0) (fun t5 w =>
  R (.returned t5) w) w) (fun ch w => R (.panicked ch) w) w
theorem e_lex_Read_1 (R : Ending → World → Prop) (a0 : Value) (w : World) : vcFn P tab 4000 Tryz.f60.ntmps (Tryz.f60.body.getD .skip) Tryz.f60.results.toList [a0] R w = d_lex_Read_1 R a0 w := by kernel_rfl
theorem t_lex_Read_1 (R : Ending → World → Prop) (a0 : Value) (w : World) (h : d_lex_Read_1 R a0 w) : Tr P F.lex_Read_1 [a0] w R :=
  fn_ok (fn := Tryz.f60) (c := Tryz.f60.body.getD .skip) (fuel := 4000) mixed tab_ok Tryz.func60 (by kernel_rfl) (by kernel_rfl) (Nat.le_of_ble_eq_true (by kernel_rfl)) (Eq.mpr (e_lex_Read_1 R a0 w) h)
/-- lapidary/lex.place -/
def d_lex_place (R : Ending → World → Prop) (a0 a1 : Value) (w : World) : Prop :=
  rgS a1 (fun t8 w =>
  lp 1 [(Value.int IntKind.i64 0)] (fun r1 x4 w =>
  nxS t8 (fun t9 w =>
  ex t9 0 (fun t10 w =>
  cnd t10
  (ex t9 1 (fun t11 w =>
  ex t9 2 (fun t12 w =>
  cI .u8 t12 (fun t14 w =>
  bI .eql .u8 t14 a0 (fun t16 w =>
  cnd t16
  (R (.returned t11) w)
  (sm [(a0, a0), (t8, t8)] [] [] (r1 [x4] w))) w) w) w) w)
  (R (.returned (Value.int IntKind.i64 (-1))) w)) w) w) w) w
theorem e_lex_place (R : Ending → World → Prop) (a0 a1 : Value) (w : World) : vcFn P tab 4000 Tryz.f61.ntmps (Tryz.f61.body.getD .skip) Tryz.f61.results.toList [a0, a1] R w = d_lex_place R a0 a1 w := by kernel_rfl
theorem t_lex_place (R : Ending → World → Prop) (a0 a1 : Value) (w : World) (h : d_lex_place R a0 a1 w) : Tr P F.lex_place [a0, a1] w R :=
  fn_ok (fn := Tryz.f61) (c := Tryz.f61.body.getD .skip) (fuel := 4000) mixed tab_ok Tryz.func61 (by kernel_rfl) (by kernel_rfl) (Nat.le_of_ble_eq_true (by kernel_rfl)) (Eq.mpr (e_lex_place R a0 a1 w) h)
/-- strings.IndexByte -/
def d_strings_IndexByte (R : Ending → World → Prop) (a0 a1 : Value) (w : World) : Prop :=
  cl P F.internal_stringslite_IndexByte [a0, a1] (fun t7 w =>
  R (.returned t7) w) (fun ch w => R (.panicked ch) w) w
theorem e_strings_IndexByte (R : Ending → World → Prop) (a0 a1 : Value) (w : World) : vcFn P tab 4000 Tryz.f62.ntmps (Tryz.f62.body.getD .skip) Tryz.f62.results.toList [a0, a1] R w = d_strings_IndexByte R a0 a1 w := by kernel_rfl
theorem t_strings_IndexByte (R : Ending → World → Prop) (a0 a1 : Value) (w : World) (h : d_strings_IndexByte R a0 a1 w) : Tr P F.strings_IndexByte [a0, a1] w R :=
  fn_ok (fn := Tryz.f62) (c := Tryz.f62.body.getD .skip) (fuel := 4000) mixed tab_ok Tryz.func62 (by kernel_rfl) (by kernel_rfl) (Nat.le_of_ble_eq_true (by kernel_rfl)) (Eq.mpr (e_strings_IndexByte R a0 a1 w) h)
/-- (*lapidary/lex.reader).word -/
def d_lex_reader_word (R : Ending → World → Prop) (a0 : Value) (w : World) : Prop :=
  al [.int .i64 0, .string ⟨#[]⟩, .int .i64 0] 112 (fun t2 w =>
  nc a0 (fun t10 w =>
  fa 1 t10 (fun t11 w =>
  ld t11 (fun t12 w =>
  bd [.int .i64 0, .string ⟨#[]⟩, .int .i64 0] [(2, 1, t12)] (fun t13 w =>
  al [.int .i64 0, .string ⟨#[]⟩, .int .i64 0] 112 (fun t4 w =>
  st 3 t4 t13 (fun w =>
  jn 2 (fun x3 x5 w =>
  drw w (fun w =>
  nc a0 (fun t155 w =>
  fa 0 t155 (fun t156 w =>
  ld t156 (fun t157 w =>
  fa 2 t4 (fun t158 w =>
  ld t158 (fun t159 w =>
  nc a0 (fun t161 w =>
  fa 1 t161 (fun t162 w =>
  ld t162 (fun t163 w =>
  slS t157 (some t159) (some t163) (fun t164 w =>
  fa 1 t4 (fun t165 w =>
  st 1 t165 t164 (fun w =>
  ldn 3 t4 (fun t166 w =>
  st 3 t2 t166 (fun w =>
  ldn 3 t2 (fun r0 w =>
  R (.returned (.tuple #[r0, x5])) w) w) w) w) w) w) w) w) w) w) w) w) w) w) w)) (fun k1 =>
  drw w (fun w =>
  nc a0 (fun t15 w =>
  fa 0 t15 (fun t16 w =>
  ld t16 (fun t17 w =>
  nc a0 (fun t19 w =>
  fa 1 t19 (fun t20 w =>
  ld t20 (fun t21 w =>
  ix t17 t21 (fun t22 w =>
  cl P F.lex_letter [t22] (fun t39 w =>
  cnd t39
  (cl P F.lex_reader_name [a0] (fun t41 w =>
  fa 0 t4 (fun t42 w =>
  st 1 t42 (Value.int IntKind.i64 1) (fun w =>
  cl P F.lex_reader_colon [a0] (fun t44 w =>
  cnd t44
  (fa 0 t4 (fun t45 w =>
  st 1 t45 (Value.int IntKind.i64 2) (fun w =>
  nc a0 (fun t47 w =>
  fa 1 t47 (fun t48 w =>
  ld t48 (fun t49 w =>
  bI .add .i64 t49 (Value.int IntKind.i64 1) (fun t50 w =>
  nc a0 (fun t51 w =>
  fa 1 t51 (fun t52 w =>
  st 1 t52 t50 (fun w =>
  sm [(a0, a0), (t2, t2), (t4, t4)] [] [] (k1 (.bool false) (.bool true) w)) w) w) w) w) w) w) w) w) w)
  (sm [(a0, a0), (t2, t2), (t4, t4)] [] [] (k1 (.bool false) (.bool true) w))) (fun ch w => R (.panicked ch) w) w) w) w) (fun ch w => R (.panicked ch) w) w)
  (cl P F.lex_digit [t22] (fun t55 w =>
  cnd t55
  (fa 0 t4 (fun t56 w =>
  st 1 t56 (Value.int IntKind.i64 4) (fun w =>
  cl P F.lex_reader_skip [a0, (.func (.func F.lex_digit) #[] #[])] (fun t58 w =>
  drw w (fun w =>
  (nc a0 (fun t61 w =>
  fa 0 t61 (fun t62 w =>
  ld t62 (fun t63 w =>
  fa 2 t4 (fun t64 w =>
  ld t64 (fun t65 w =>
  nc a0 (fun t67 w =>
  fa 1 t67 (fun t68 w =>
  ld t68 (fun t69 w =>
  slS t63 (some t65) (some t69) (fun t70 w =>
  cl P F.whole_Read [t70] (fun t71 w =>
  ex t71 0 (fun t72 w =>
  ex t71 1 (fun t73 w =>
  al [.bool false, .slice none 0 0] 178 (fun t7 w =>
  st 2 t7 t72 (fun w =>
  bI .eql .i64 t73 (Value.int IntKind.i64 0) (fun t75 w =>
  sm [(a0, a0), (t2, t2), (t4, t4)] [] [] (k1 (.bool false) t75 w)) w) w) w) w) w) (fun ch w => R (.panicked ch) w) w) w) w) w) w) w) w) w) w) w) ∧
  (nc a0 (fun t61 w =>
  fa 0 t61 (fun t62 w =>
  ld t62 (fun t63 w =>
  fa 2 t4 (fun t64 w =>
  ld t64 (fun t65 w =>
  nc a0 (fun t67 w =>
  fa 1 t67 (fun t68 w =>
  ld t68 (fun t69 w =>
  slS t63 (some t65) (some t69) (fun t70 w =>
  al [.bool false, .slice none 0 0] 178 (fun t7 w =>
  rk false t68 t69
  (rk false t64 t65
  (rk false t62 t63
  (cl P F.whole_Read [t70] (fun t71 w =>
  ex t71 0 (fun t72 w =>
  ex t71 1 (fun t73 w =>
  st 2 t7 t72 (fun w =>
  bI .eql .i64 t73 (Value.int IntKind.i64 0) (fun t75 w =>
  sm [(a0, a0), (t2, t2), (t4, t4)] [] [] (k1 (.bool false) t75 w)) w) w) w) w) (fun ch w => R (.panicked ch) w) w) w) w) w) w) w) w) w) w) w) w) w) w) w))) (fun ch w => R (.panicked ch) w) w) w) w)
  (bI .eql .u8 t22 (Value.int IntKind.u8 39) (fun t78 w =>
  cnd t78
  (fa 0 t4 (fun t79 w =>
  st 1 t79 (Value.int IntKind.i64 5) (fun w =>
  cl P F.lex_reader_quoted [a0] (fun t82 w =>
  ex t82 0 (fun t83 w =>
  ex t82 1 (fun t84 w =>
  fa 1 t4 (fun t85 w =>
  st 1 t85 t83 (fun w =>
  ldn 3 t4 (fun t86 w =>
  st 3 t2 t86 (fun w =>
  ldn 3 t2 (fun r0 w =>
  R (.returned (.tuple #[r0, t84])) w) w) w) w) w) w) w) w) (fun ch w => R (.panicked ch) w) w) w) w)
  (jn 1 (fun x88 w =>
  cnd x88
  (fa 0 t4 (fun t96 w =>
  st 1 t96 (Value.int IntKind.i64 17) (fun w =>
  nc a0 (fun t98 w =>
  fa 1 t98 (fun t99 w =>
  ld t99 (fun t100 w =>
  bI .add .i64 t100 (Value.int IntKind.i64 2) (fun t101 w =>
  nc a0 (fun t102 w =>
  fa 1 t102 (fun t103 w =>
  st 1 t103 t101 (fun w =>
  sm [(a0, a0), (t2, t2), (t4, t4)] [] [] (k1 (.bool false) (.bool true) w)) w) w) w) w) w) w) w) w) w)
  (bI .eql .u8 t22 (Value.int IntKind.u8 35) (fun t106 w =>
  cnd t106
  (fa 0 t4 (fun t107 w =>
  st 1 t107 (Value.int IntKind.i64 6) (fun w =>
  nc a0 (fun t109 w =>
  fa 1 t109 (fun t110 w =>
  ld t110 (fun t111 w =>
  bI .add .i64 t111 (Value.int IntKind.i64 1) (fun t112 w =>
  nc a0 (fun t113 w =>
  fa 1 t113 (fun t114 w =>
  st 1 t114 t112 (fun w =>
  cl P F.lex_reader_symbol [a0] (fun t117 w =>
  ex t117 0 (fun t118 w =>
  ex t117 1 (fun t119 w =>
  fa 1 t4 (fun t120 w =>
  st 1 t120 t118 (fun w =>
  ldn 3 t4 (fun t121 w =>
  st 3 t2 t121 (fun w =>
  ldn 3 t2 (fun r0 w =>
  R (.returned (.tuple #[r0, t119])) w) w) w) w) w) w) w) w) (fun ch w => R (.panicked ch) w) w) w) w) w) w) w) w) w) w) w)
  (jn 1 (fun x123 w =>
  cnd x123
  (fa 0 t4 (fun t131 w =>
  st 1 t131 (Value.int IntKind.i64 7) (fun w =>
  nc a0 (fun t133 w =>
  fa 1 t133 (fun t134 w =>
  ld t134 (fun t135 w =>
  bI .add .i64 t135 (Value.int IntKind.i64 2) (fun t136 w =>
  nc a0 (fun t137 w =>
  fa 1 t137 (fun t138 w =>
  st 1 t138 t136 (fun w =>
  sm [(a0, a0), (t2, t2), (t4, t4)] [] [] (k1 (.bool false) (.bool true) w)) w) w) w) w) w) w) w) w) w)
  (bI .eql .u8 t22 (Value.int IntKind.u8 58) (fun t141 w =>
  cnd t141
  (fa 0 t4 (fun t142 w =>
  st 1 t142 (Value.int IntKind.i64 16) (fun w =>
  nc a0 (fun t144 w =>
  fa 1 t144 (fun t145 w =>
  ld t145 (fun t146 w =>
  bI .add .i64 t146 (Value.int IntKind.i64 1) (fun t147 w =>
  nc a0 (fun t148 w =>
  fa 1 t148 (fun t149 w =>
  st 1 t149 t147 (fun w =>
  sm [(a0, a0), (t2, t2), (t4, t4)] [] [] (k1 (.bool false) (.bool true) w)) w) w) w) w) w) w) w) w) w)
  (cl P F.lex_reader_sign [a0] (fun t152 w =>
  cnd t152
  (fa 0 t4 (fun t153 w =>
  st 1 t153 (Value.int IntKind.i64 3) (fun w =>
  sm [(a0, a0), (t2, t2), (t4, t4)] [] [] (k1 (.bool false) (.bool true) w)) w) w)
  (cl P F.lex_place [t22, (Value.string { data := #[40, 41, 91, 93, 124, 94, 46, 59] })] (fun t24 w =>
  bI .add .i64 (Value.int IntKind.i64 8) t24 (fun t25 w =>
  fa 0 t4 (fun t26 w =>
  st 1 t26 t25 (fun w =>
  fa 0 t4 (fun t27 w =>
  ld t27 (fun t28 w =>
  bI .geq .i64 t28 (Value.int IntKind.i64 8) (fun t29 w =>
  nc a0 (fun t31 w =>
  fa 1 t31 (fun t32 w =>
  ld t32 (fun t33 w =>
  bI .add .i64 t33 (Value.int IntKind.i64 1) (fun t34 w =>
  nc a0 (fun t35 w =>
  fa 1 t35 (fun t36 w =>
  st 1 t36 t34 (fun w =>
  sm [(a0, a0), (t2, t2), (t4, t4)] [] [] (k1 (.bool false) t29 w)) w) w) w) w) w) w) w) w) w) w) w) w) w) (fun ch w => R (.panicked ch) w) w)) (fun ch w => R (.panicked ch) w) w)) w)) (fun k3 =>
  bI .eql .u8 t22 (Value.int IntKind.u8 58) (fun t125 w =>
  cnd t125
  (cl P F.lex_reader_peek [a0, (Value.int IntKind.i64 1)] (fun t128 w =>
  bI .eql .u8 t128 (Value.int IntKind.u8 61) (fun t129 w =>
  sm [(a0, a0), (t2, t2), ((.bool false), (.bool false)), (t4, t4), ((.bool true), (.bool true)), (t22, t22)] [] [] (k3 t129 w)) w) (fun ch w => R (.panicked ch) w) w)
  (sm [(a0, a0), (t2, t2), ((.bool false), (.bool false)), (t4, t4), ((.bool true), (.bool true)), (t22, t22)] [] [] (k3 (.bool false) w))) w))) w)) (fun k2 =>
  bI .eql .u8 t22 (Value.int IntKind.u8 35) (fun t90 w =>
  cnd t90
  (cl P F.lex_reader_peek [a0, (Value.int IntKind.i64 1)] (fun t93 w =>
  bI .eql .u8 t93 (Value.int IntKind.u8 40) (fun t94 w =>
  sm [(a0, a0), (t2, t2), ((.bool false), (.bool false)), (t4, t4), ((.bool true), (.bool true)), (t22, t22)] [] [] (k2 t94 w)) w) (fun ch w => R (.panicked ch) w) w)
  (sm [(a0, a0), (t2, t2), ((.bool false), (.bool false)), (t4, t4), ((.bool true), (.bool true)), (t22, t22)] [] [] (k2 (.bool false) w))) w))) w)) (fun ch w => R (.panicked ch) w) w)) (fun ch w => R (.panicked ch) w) w) w) w) w) w) w) w) w))) w) w) w) w) w) w) w
theorem e_lex_reader_word (R : Ending → World → Prop) (a0 : Value) (w : World) : vcFn P tab 4000 Tryz.f63.ntmps (Tryz.f63.body.getD .skip) Tryz.f63.results.toList [a0] R w = d_lex_reader_word R a0 w := by kernel_rfl
theorem t_lex_reader_word (R : Ending → World → Prop) (a0 : Value) (w : World) (h : d_lex_reader_word R a0 w) : Tr P F.lex_reader_word [a0] w R :=
  fn_ok (fn := Tryz.f63) (c := Tryz.f63.body.getD .skip) (fuel := 4000) mixed tab_ok Tryz.func63 (by kernel_rfl) (by kernel_rfl) (Nat.le_of_ble_eq_true (by kernel_rfl)) (Eq.mpr (e_lex_reader_word R a0 w) h)
/-- (*lapidary/tree.parser).statement -/
def d_tree_parser_statement (R : Ending → World → Prop) (a0 : Value) (w : World) : Prop :=
  al [.int .i64 0, .string ⟨#[]⟩, .int .i64 0, .int .i64 0, .slice none 0 0, .slice none 0 0] 50 (fun t2 w =>
  cl P F.tree_parser_kind [a0] (fun t6 w =>
  bI .neq .i64 t6 (Value.int IntKind.i64 13) (fun t7 w =>
  cnd t7
  (cl P F.tree_parser_expression [a0] (fun t9 w =>
  st 6 t2 t9 (fun w =>
  ldn 6 t2 (fun r0 w =>
  R (.returned (.tuple #[r0, (.bool false)])) w) w) w) (fun ch w => R (.panicked ch) w) w)
  (cl P F.tree_parser_take [a0] (fun t11 w =>
  fl false 1 2 t11 (fun t12 w =>
  bd [.int .i64 0, .string ⟨#[]⟩, .int .i64 0, .int .i64 0, .slice none 0 0, .slice none 0 0] [(0, 1, (Value.int IntKind.i64 11)), (2, 1, t12)] (fun t13 w =>
  al [.int .i64 0, .string ⟨#[]⟩, .int .i64 0, .int .i64 0, .slice none 0 0, .slice none 0 0] 50 (fun t4 w =>
  st 6 t4 t13 (fun w =>
  cl P F.tree_parser_expression [a0] (fun t15 w =>
  bs 50 [.int .i64 0, .string ⟨#[]⟩, .int .i64 0, .int .i64 0, .slice none 0 0, .slice none 0 0] 1 [(0, 6, t15)] (fun t16 w =>
  fa 5 t4 (fun t17 w =>
  st 1 t17 t16 (fun w =>
  ldn 6 t4 (fun t18 w =>
  st 6 t2 t18 (fun w =>
  ldn 6 t2 (fun r0 w =>
  R (.returned (.tuple #[r0, (.bool true)])) w) w) w) w) w) w) w) (fun ch w => R (.panicked ch) w) w) w) w) w) w) (fun ch w => R (.panicked ch) w) w)) w) (fun ch w => R (.panicked ch) w) w) w
theorem e_tree_parser_statement (R : Ending → World → Prop) (a0 : Value) (w : World) : vcFn P tab 4000 Tryz.f64.ntmps (Tryz.f64.body.getD .skip) Tryz.f64.results.toList [a0] R w = d_tree_parser_statement R a0 w := by kernel_rfl
theorem t_tree_parser_statement (R : Ending → World → Prop) (a0 : Value) (w : World) (h : d_tree_parser_statement R a0 w) : Tr P F.tree_parser_statement [a0] w R :=
  fn_ok (fn := Tryz.f64) (c := Tryz.f64.body.getD .skip) (fuel := 4000) mixed tab_ok Tryz.func64 (by kernel_rfl) (by kernel_rfl) (Nat.le_of_ble_eq_true (by kernel_rfl)) (Eq.mpr (e_tree_parser_statement R a0 w) h)
/-- (*lapidary/tree.parser).bad -/
def d_tree_parser_bad (R : Ending → World → Prop) (a0 a1 : Value) (w : World) : Prop :=
  nc a0 (fun t5 w =>
  fa 0 t5 (fun t6 w =>
  ld t6 (fun t7 w =>
  ia 3 t7 (Value.int IntKind.i64 0) (fun t8 w =>
  fa 2 t8 (fun t9 w =>
  ld t9 (fun t10 w =>
  bd [.int .i64 0, .int .i64 0] [(0, 1, t10), (1, 1, a1)] (fun t12 w =>
  pn (.iface 99 t12) (fun ch w => R (.panicked ch) w) w) w) w) w) w) w) w) w
theorem e_tree_parser_bad (R : Ending → World → Prop) (a0 a1 : Value) (w : World) : vcFn P tab 4000 Tryz.f65.ntmps (Tryz.f65.body.getD .skip) Tryz.f65.results.toList [a0, a1] R w = d_tree_parser_bad R a0 a1 w := by kernel_rfl
theorem t_tree_parser_bad (R : Ending → World → Prop) (a0 a1 : Value) (w : World) (h : d_tree_parser_bad R a0 a1 w) : Tr P F.tree_parser_bad [a0, a1] w R :=
  fn_ok (fn := Tryz.f65) (c := Tryz.f65.body.getD .skip) (fuel := 4000) mixed tab_ok Tryz.func65 (by kernel_rfl) (by kernel_rfl) (Nat.le_of_ble_eq_true (by kernel_rfl)) (Eq.mpr (e_tree_parser_bad R a0 a1 w) h)
/-- lapidary/scope.fixed -/
def d_scope_fixed (R : Ending → World → Prop) (a0 : Value) (w : World) : Prop :=
  al [.int .i64 0, .string ⟨#[]⟩, .int .i64 0, .int .i64 0, .int .i64 0, .bool false] 146 (fun t2 w =>
  bd [.int .i64 0, .string ⟨#[]⟩, .int .i64 0, .int .i64 0, .int .i64 0, .bool false] [(1, 1, a0)] (fun t6 w =>
  al [.int .i64 0, .string ⟨#[]⟩, .int .i64 0, .int .i64 0, .int .i64 0, .bool false] 146 (fun t4 w =>
  st 6 t4 t6 (fun w =>
  bS .eql a0 (Value.string { data := #[115, 101, 108, 102] }) (fun t10 w =>
  cnd t10
  (ldn 6 t4 (fun t25 w =>
  st 6 t2 t25 (fun w =>
  ldn 6 t2 (fun r0 w =>
  R (.returned (.tuple #[r0, (.bool true)])) w) w) w) w)
  (bS .eql a0 (Value.string { data := #[115, 117, 112, 101, 114] }) (fun t12 w =>
  cnd t12
  (fa 2 t4 (fun t13 w =>
  st 1 t13 (Value.int IntKind.i64 1) (fun w =>
  ldn 6 t4 (fun t25 w =>
  st 6 t2 t25 (fun w =>
  ldn 6 t2 (fun r0 w =>
  R (.returned (.tuple #[r0, (.bool true)])) w) w) w) w) w) w)
  (bS .eql a0 (Value.string { data := #[110, 105, 108] }) (fun t15 w =>
  cnd t15
  (fa 2 t4 (fun t16 w =>
  st 1 t16 (Value.int IntKind.i64 2) (fun w =>
  ldn 6 t4 (fun t25 w =>
  st 6 t2 t25 (fun w =>
  ldn 6 t2 (fun r0 w =>
  R (.returned (.tuple #[r0, (.bool true)])) w) w) w) w) w) w)
  (bS .eql a0 (Value.string { data := #[102, 97, 108, 115, 101] }) (fun t18 w =>
  cnd t18
  (fa 2 t4 (fun t19 w =>
  st 1 t19 (Value.int IntKind.i64 2) (fun w =>
  fa 4 t4 (fun t20 w =>
  st 1 t20 (Value.int IntKind.i64 1) (fun w =>
  ldn 6 t4 (fun t25 w =>
  st 6 t2 t25 (fun w =>
  ldn 6 t2 (fun r0 w =>
  R (.returned (.tuple #[r0, (.bool true)])) w) w) w) w) w) w) w) w)
  (bS .eql a0 (Value.string { data := #[116, 114, 117, 101] }) (fun t22 w =>
  cnd t22
  (fa 2 t4 (fun t23 w =>
  st 1 t23 (Value.int IntKind.i64 2) (fun w =>
  fa 4 t4 (fun t24 w =>
  st 1 t24 (Value.int IntKind.i64 2) (fun w =>
  ldn 6 t4 (fun t25 w =>
  st 6 t2 t25 (fun w =>
  ldn 6 t2 (fun r0 w =>
  R (.returned (.tuple #[r0, (.bool true)])) w) w) w) w) w) w) w) w)
  (ldn 6 t4 (fun t8 w =>
  st 6 t2 t8 (fun w =>
  ldn 6 t2 (fun r0 w =>
  R (.returned (.tuple #[r0, (.bool false)])) w) w) w) w)) w)) w)) w)) w)) w) w) w) w) w
theorem e_scope_fixed (R : Ending → World → Prop) (a0 : Value) (w : World) : vcFn P tab 4000 Tryz.f66.ntmps (Tryz.f66.body.getD .skip) Tryz.f66.results.toList [a0] R w = d_scope_fixed R a0 w := by kernel_rfl
theorem t_scope_fixed (R : Ending → World → Prop) (a0 : Value) (w : World) (h : d_scope_fixed R a0 w) : Tr P F.scope_fixed [a0] w R :=
  fn_ok (fn := Tryz.f66) (c := Tryz.f66.body.getD .skip) (fuel := 4000) mixed tab_ok Tryz.func66 (by kernel_rfl) (by kernel_rfl) (Nat.le_of_ble_eq_true (by kernel_rfl)) (Eq.mpr (e_scope_fixed R a0 w) h)
/-- slices.Contains[[]string,string] -/
def d_slices_Contains_string_string (R : Ending → World → Prop) (a0 a1 : Value) (w : World) : Prop :=
  cl P F.slices_Index_string_string [a0, a1] (fun t7 w =>
  bI .geq .i64 t7 (Value.int IntKind.i64 0) (fun t8 w =>
  R (.returned t8) w) w) (fun ch w => R (.panicked ch) w) w
theorem e_slices_Contains_string_string (R : Ending → World → Prop) (a0 a1 : Value) (w : World) : vcFn P tab 4000 Tryz.f67.ntmps (Tryz.f67.body.getD .skip) Tryz.f67.results.toList [a0, a1] R w = d_slices_Contains_string_string R a0 a1 w := by kernel_rfl
theorem t_slices_Contains_string_string (R : Ending → World → Prop) (a0 a1 : Value) (w : World) (h : d_slices_Contains_string_string R a0 a1 w) : Tr P F.slices_Contains_string_string [a0, a1] w R :=
  fn_ok (fn := Tryz.f67) (c := Tryz.f67.body.getD .skip) (fuel := 4000) mixed tab_ok Tryz.func67 (by kernel_rfl) (by kernel_rfl) (Nat.le_of_ble_eq_true (by kernel_rfl)) (Eq.mpr (e_slices_Contains_string_string R a0 a1 w) h)
/-- (*lapidary/scope.walk).part -/
def d_scope_walk_part (R : Ending → World → Prop) (a0 a1 a2 a3 : Value) (w : World) : Prop :=
  al a1.cells.toList 50 (fun t5 w =>
  jn 0 (fun w =>
  fa 5 t5 (fun t100 w =>
  ld t100 (fun t101 w =>
  lnL t101 (fun t102 w =>
  lp 1 [(Value.int IntKind.i64 0)] (fun r2 x103 w =>
  bI .lss .i64 x103 t102 (fun t104 w =>
  cnd t104
  (ia 6 t101 x103 (fun t106 w =>
  ldn 6 t106 (fun t107 w =>
  al [.int .i64 0, .string ⟨#[]⟩, .int .i64 0, .int .i64 0, .slice none 0 0, .slice none 0 0] 50 (fun t13 w =>
  st 6 t13 t107 (fun w =>
  ldn 6 t13 (fun t109 w =>
  bI .eql .i64 x103 (Value.int IntKind.i64 0) (fun t112 w =>
  cnd t112
  (fa 0 t5 (fun t114 w =>
  ld t114 (fun t115 w =>
  bI .eql .i64 t115 (Value.int IntKind.i64 7) (fun t116 w =>
  cnd t116
  (cl P F.scope_walk_part [a0, t109, a2, (.bool true)] (fun t123 w =>
  bI .add .i64 x103 (Value.int IntKind.i64 1) (fun t124 w =>
  sm [(a0, a0), (a2, a2), (t5, t5), (t101, t101), (t102, t102)] [] [] (r2 [t124] w)) w) (fun ch w => R (.panicked ch) w) w)
  (fa 0 t5 (fun t118 w =>
  ld t118 (fun t119 w =>
  bI .eql .i64 t119 (Value.int IntKind.i64 8) (fun t120 w =>
  cl P F.scope_walk_part [a0, t109, a2, t120] (fun t123 w =>
  bI .add .i64 x103 (Value.int IntKind.i64 1) (fun t124 w =>
  sm [(a0, a0), (a2, a2), (t5, t5), (t101, t101), (t102, t102)] [] [] (r2 [t124] w)) w) (fun ch w => R (.panicked ch) w) w) w) w) w)) w) w) w)
  (cl P F.scope_walk_part [a0, t109, a2, (.bool false)] (fun t123 w =>
  bI .add .i64 x103 (Value.int IntKind.i64 1) (fun t124 w =>
  sm [(a0, a0), (a2, a2), (t5, t5), (t101, t101), (t102, t102)] [] [] (r2 [t124] w)) w) (fun ch w => R (.panicked ch) w) w)) w) w) w) w) w) w)
  (R (.returned (.tuple #[])) w)) w) w) w) w) w) (fun k1 =>
  fa 0 t5 (fun t14 w =>
  ld t14 (fun t15 w =>
  bI .eql .i64 t15 (Value.int IntKind.i64 5) (fun t17 w =>
  cnd t17
  (fa 1 t5 (fun t20 w =>
  ld t20 (fun t21 w =>
  cl P F.scope_walk_find [a0, t21, a2] (fun t23 w =>
  ex t23 0 (fun t24 w =>
  ex t23 1 (fun t25 w =>
  al [.int .i64 0, .string ⟨#[]⟩, .int .i64 0, .int .i64 0, .int .i64 0, .bool false] 146 (fun t8 w =>
  st 6 t8 t24 (fun w =>
  jn 0 (fun w =>
  fa 2 t5 (fun t42 w =>
  ld t42 (fun t43 w =>
  fa 0 t8 (fun t44 w =>
  st 1 t44 t43 (fun w =>
  drw w (fun w =>
  nc a0 (fun t47 w =>
  fa 1 t47 (fun t48 w =>
  ld t48 (fun t49 w =>
  ldn 6 t8 (fun t50 w =>
  bs 146 [.int .i64 0, .string ⟨#[]⟩, .int .i64 0, .int .i64 0, .int .i64 0, .bool false] 1 [(0, 6, t50)] (fun t51 w =>
  rk false t48 t49
  (ap 146 6 56 [.int .i64 0, .string ⟨#[]⟩, .int .i64 0, .int .i64 0, .int .i64 0, .bool false] t49 t51 (fun t52 w =>
  nc a0 (fun t53 w =>
  fa 1 t53 (fun t54 w =>
  st 1 t54 t52 (fun w =>
  R (.returned (.tuple #[])) w) w) w) w) w) w) w) w) w) w) w)) w) w) w) w) (fun k3 =>
  jn 1 (fun x37 w =>
  cnd x37
  (fa 2 t5 (fun t38 w =>
  ld t38 (fun t39 w =>
  bd [.int .i64 0] [(0, 1, t39)] (fun t40 w =>
  pn (.iface 104 t40) (fun ch w => R (.panicked ch) w) w) w) w) w)
  (sm [(a0, a0), (a2, a2), (t5, t5), (t8, t8)] [] [] (k3 w))) (fun k4 =>
  fa 2 t8 (fun t26 w =>
  ld t26 (fun t27 w =>
  bI .eql .i64 t27 (Value.int IntKind.i64 (-1)) (fun t28 w =>
  cnd t28
  (sm [(a0, a0), (a2, a2), (t5, t5), (t8, t8)] [] [] (k4 (.bool true) w))
  (fa 2 t8 (fun t30 w =>
  ld t30 (fun t31 w =>
  bI .eql .i64 t31 (Value.int IntKind.i64 1) (fun t32 w =>
  cnd t32
  (uN a3 (fun t35 w =>
  sm [(a0, a0), (a2, a2), (t5, t5), (t8, t8)] [] [] (k4 t35 w)) w)
  (sm [(a0, a0), (a2, a2), (t5, t5), (t8, t8)] [] [] (k4 (.bool false) w))) w) w) w)) w) w) w))) w) w) w) w) (fun ch w => R (.panicked ch) w) w) w) w)
  (bI .eql .i64 t15 (Value.int IntKind.i64 6) (fun t56 w =>
  cnd t56
  (fa 1 t5 (fun t59 w =>
  ld t59 (fun t60 w =>
  cl P F.scope_walk_find [a0, t60, a2] (fun t62 w =>
  ex t62 0 (fun t63 w =>
  ex t62 1 (fun t64 w =>
  al [.int .i64 0, .string ⟨#[]⟩, .int .i64 0, .int .i64 0, .int .i64 0, .bool false] 146 (fun t10 w =>
  st 6 t10 t63 (fun w =>
  jn 0 (fun w =>
  fa 2 t5 (fun t80 w =>
  ld t80 (fun t81 w =>
  fa 0 t10 (fun t82 w =>
  st 1 t82 t81 (fun w =>
  fa 5 t10 (fun t83 w =>
  st 1 t83 (.bool true) (fun w =>
  drw w (fun w =>
  nc a0 (fun t86 w =>
  fa 1 t86 (fun t87 w =>
  ld t87 (fun t88 w =>
  ldn 6 t10 (fun t89 w =>
  bs 146 [.int .i64 0, .string ⟨#[]⟩, .int .i64 0, .int .i64 0, .int .i64 0, .bool false] 1 [(0, 6, t89)] (fun t90 w =>
  rk false t87 t88
  (ap 146 6 56 [.int .i64 0, .string ⟨#[]⟩, .int .i64 0, .int .i64 0, .int .i64 0, .bool false] t88 t90 (fun t91 w =>
  nc a0 (fun t92 w =>
  fa 1 t92 (fun t93 w =>
  st 1 t93 t91 (fun w =>
  sm [(a0, a0), (a2, a2), (t5, t5)] [] [] (k1 w)) w) w) w) w) w) w) w) w) w) w)) w) w) w) w) w) w) (fun k5 =>
  jn 1 (fun x75 w =>
  cnd x75
  (fa 2 t5 (fun t76 w =>
  ld t76 (fun t77 w =>
  bd [.int .i64 0] [(0, 1, t77)] (fun t78 w =>
  pn (.iface 104 t78) (fun ch w => R (.panicked ch) w) w) w) w) w)
  (sm [(a0, a0), (a2, a2), (t5, t5), (t10, t10)] [] [] (k5 w))) (fun k6 =>
  cnd t64
  (sm [(a0, a0), (a2, a2), (t5, t5), (t10, t10)] [] [] (k6 (.bool true) w))
  (fa 2 t10 (fun t67 w =>
  ld t67 (fun t68 w =>
  bI .neq .i64 t68 (Value.int IntKind.i64 3) (fun t69 w =>
  cnd t69
  (fa 2 t10 (fun t71 w =>
  ld t71 (fun t72 w =>
  bI .neq .i64 t72 (Value.int IntKind.i64 4) (fun t73 w =>
  sm [(a0, a0), (a2, a2), (t5, t5), (t10, t10)] [] [] (k6 t73 w)) w) w) w)
  (sm [(a0, a0), (a2, a2), (t5, t5), (t10, t10)] [] [] (k6 (.bool false) w))) w) w) w)))) w) w) w) w) (fun ch w => R (.panicked ch) w) w) w) w)
  (bI .eql .i64 t15 (Value.int IntKind.i64 10) (fun t95 w =>
  cnd t95
  (ldn 6 t5 (fun t97 w =>
  cl P F.scope_walk_unit [a0, t97, a2] (fun t99 w =>
  R (.returned (.tuple #[])) w) (fun ch w => R (.panicked ch) w) w) w)
  (sm [(a0, a0), (a2, a2), (t5, t5)] [] [] (k1 w))) w)) w)) w) w) w)) w
theorem e_scope_walk_part (R : Ending → World → Prop) (a0 a1 a2 a3 : Value) (w : World) : vcFn P tab 4000 Tryz.f68.ntmps (Tryz.f68.body.getD .skip) Tryz.f68.results.toList [a0, a1, a2, a3] R w = d_scope_walk_part R a0 a1 a2 a3 w := by kernel_rfl
theorem t_scope_walk_part (R : Ending → World → Prop) (a0 a1 a2 a3 : Value) (w : World) (h : d_scope_walk_part R a0 a1 a2 a3 w) : Tr P F.scope_walk_part [a0, a1, a2, a3] w R :=
  fn_ok (fn := Tryz.f68) (c := Tryz.f68.body.getD .skip) (fuel := 4000) mixed tab_ok Tryz.func68 (by kernel_rfl) (by kernel_rfl) (Nat.le_of_ble_eq_true (by kernel_rfl)) (Eq.mpr (e_scope_walk_part R a0 a1 a2 a3 w) h)
/-- lapidary/code.once -/
def d_code_once (R : Ending → World → Prop) (a0 a1 : Value) (w : World) : Prop :=
  nc a0 (fun t7 w =>
  ld t7 (fun t8 w =>
  cl P F.slices_Index_string_string [t8, a1] (fun t10 w =>
  bI .geq .i64 t10 (Value.int IntKind.i64 0) (fun t12 w =>
  cnd t12
  (R (.returned t10) w)
  (nc a0 (fun t16 w =>
  ld t16 (fun t17 w =>
  bs 9 [.string ⟨#[]⟩] 1 [(0, 1, a1)] (fun t19 w =>
  ap 9 1 16 [.string ⟨#[]⟩] t17 t19 (fun t20 w =>
  nc a0 (fun t21 w =>
  st 1 t21 t20 (fun w =>
  nc a0 (fun t23 w =>
  ld t23 (fun t24 w =>
  lnL t24 (fun t25 w =>
  bI .sub .i64 t25 (Value.int IntKind.i64 1) (fun t26 w =>
  R (.returned t26) w) w) w) w) w) w) w) w) w) w) w)) w) (fun ch w => R (.panicked ch) w) w) w) w
theorem e_code_once (R : Ending → World → Prop) (a0 a1 : Value) (w : World) : vcFn P tab 4000 Tryz.f69.ntmps (Tryz.f69.body.getD .skip) Tryz.f69.results.toList [a0, a1] R w = d_code_once R a0 a1 w := by kernel_rfl
theorem t_code_once (R : Ending → World → Prop) (a0 a1 : Value) (w : World) (h : d_code_once R a0 a1 w) : Tr P F.code_once [a0, a1] w R :=
  fn_ok (fn := Tryz.f69) (c := Tryz.f69.body.getD .skip) (fuel := 4000) mixed tab_ok Tryz.func69 (by kernel_rfl) (by kernel_rfl) (Nat.le_of_ble_eq_true (by kernel_rfl)) (Eq.mpr (e_code_once R a0 a1 w) h)
/-- lapidary/tree.Text -/
def d_tree_Text (R : Ending → World → Prop) (a0 : Value) (w : World) : Prop :=
  al a0.cells.toList 50 (fun t1 w =>
  al [.pointer none, .slice none 0 0] 191 (fun t3 w =>
  ldn 6 t1 (fun t4 w =>
  cl P F.tree_writer_node [t3, t4] (fun t5 w =>
  fa 0 t3 (fun t6 w =>
  cl P F.strings_Builder_String [t6] (fun t7 w =>
  R (.returned t7) w) (fun ch w => R (.panicked ch) w) w) w) (fun ch w => R (.panicked ch) w) w) w) w) w
theorem e_tree_Text (R : Ending → World → Prop) (a0 : Value) (w : World) : vcFn P tab 4000 Tryz.f70.ntmps (Tryz.f70.body.getD .skip) Tryz.f70.results.toList [a0] R w = d_tree_Text R a0 w := by kernel_rfl
theorem t_tree_Text (R : Ending → World → Prop) (a0 : Value) (w : World) (h : d_tree_Text R a0 w) : Tr P F.tree_Text [a0] w R :=
  fn_ok (fn := Tryz.f70) (c := Tryz.f70.body.getD .skip) (fuel := 4000) mixed tab_ok Tryz.func70 (by kernel_rfl) (by kernel_rfl) (Nat.le_of_ble_eq_true (by kernel_rfl)) (Eq.mpr (e_tree_Text R a0 w) h)
/-- (*lapidary/code.maker).name -/
def d_code_maker_name (R : Ending → World → Prop) (a0 a1 : Value) (w : World) : Prop :=
  cl P F.code_maker_use [a0] (fun t6 w =>
  al [.int .i64 0, .string ⟨#[]⟩, .int .i64 0, .int .i64 0, .int .i64 0, .bool false] 146 (fun t4 w =>
  st 6 t4 t6 (fun w =>
  fa 2 t4 (fun t7 w =>
  ld t7 (fun t8 w =>
  bI .eql .i64 t8 (Value.int IntKind.i64 2) (fun t13 w =>
  cnd t13
  (fa 4 t4 (fun t16 w =>
  ld t16 (fun t17 w =>
  cl P F.code_maker_add [a0, a1, (Value.int IntKind.i64 7), t17, (Value.int IntKind.i64 0)] (fun t18 w =>
  R (.returned (.tuple #[])) w) (fun ch w => R (.panicked ch) w) w) w) w)
  (bI .eql .i64 t8 (Value.int IntKind.i64 3) (fun t20 w =>
  cnd t20
  (fa 3 t4 (fun t23 w =>
  ld t23 (fun t24 w =>
  fa 4 t4 (fun t25 w =>
  ld t25 (fun t26 w =>
  cl P F.code_maker_add [a0, a1, (Value.int IntKind.i64 1), t24, t26] (fun t27 w =>
  R (.returned (.tuple #[])) w) (fun ch w => R (.panicked ch) w) w) w) w) w) w)
  (bI .eql .i64 t8 (Value.int IntKind.i64 4) (fun t29 w =>
  cnd t29
  (fa 4 t4 (fun t32 w =>
  ld t32 (fun t33 w =>
  cl P F.code_maker_add [a0, a1, (Value.int IntKind.i64 3), t33, (Value.int IntKind.i64 0)] (fun t34 w =>
  R (.returned (.tuple #[])) w) (fun ch w => R (.panicked ch) w) w) w) w)
  (bI .eql .i64 t8 (Value.int IntKind.i64 5) (fun t36 w =>
  cnd t36
  (drw w (fun w =>
  nc a0 (fun t40 w =>
  fa 0 t40 (fun t41 w =>
  fa 3 t41 (fun t42 w =>
  fa 1 t4 (fun t43 w =>
  ld t43 (fun t44 w =>
  cl P F.code_once [t42, t44] (fun t45 w =>
  cl P F.code_maker_add [a0, a1, (Value.int IntKind.i64 5), t45, (Value.int IntKind.i64 0)] (fun t46 w =>
  R (.returned (.tuple #[])) w) (fun ch w => R (.panicked ch) w) w) (fun ch w => R (.panicked ch) w) w) w) w) w) w) w))
  (cl P F.code_maker_add [a0, a1, (Value.int IntKind.i64 6), (Value.int IntKind.i64 0), (Value.int IntKind.i64 0)] (fun t11 w =>
  R (.returned (.tuple #[])) w) (fun ch w => R (.panicked ch) w) w)) w)) w)) w)) w) w) w) w) w) (fun ch w => R (.panicked ch) w) w
theorem e_code_maker_name (R : Ending → World → Prop) (a0 a1 : Value) (w : World) : vcFn P tab 4000 Tryz.f71.ntmps (Tryz.f71.body.getD .skip) Tryz.f71.results.toList [a0, a1] R w = d_code_maker_name R a0 a1 w := by kernel_rfl
theorem t_code_maker_name (R : Ending → World → Prop) (a0 a1 : Value) (w : World) (h : d_code_maker_name R a0 a1 w) : Tr P F.code_maker_name [a0, a1] w R :=
  fn_ok (fn := Tryz.f71) (c := Tryz.f71.body.getD .skip) (fuel := 4000) mixed tab_ok Tryz.func71 (by kernel_rfl) (by kernel_rfl) (Nat.le_of_ble_eq_true (by kernel_rfl)) (Eq.mpr (e_code_maker_name R a0 a1 w) h)
/-- (*lapidary/code.maker).use -/
def d_code_maker_use (R : Ending → World → Prop) (a0 : Value) (w : World) : Prop :=
  al [.int .i64 0, .string ⟨#[]⟩, .int .i64 0, .int .i64 0, .int .i64 0, .bool false] 146 (fun t2 w =>
  nc a0 (fun t5 w =>
  fa 5 t5 (fun t6 w =>
  ld t6 (fun t7 w =>
  ia 6 t7 (Value.int IntKind.i64 0) (fun t8 w =>
  ldn 6 t8 (fun t9 w =>
  al [.int .i64 0, .string ⟨#[]⟩, .int .i64 0, .int .i64 0, .int .i64 0, .bool false] 146 (fun t3 w =>
  st 6 t3 t9 (fun w =>
  nc a0 (fun t12 w =>
  fa 5 t12 (fun t13 w =>
  ld t13 (fun t14 w =>
  slL 6 t14 (some (Value.int IntKind.i64 1)) none none (fun t15 w =>
  nc a0 (fun t16 w =>
  fa 5 t16 (fun t17 w =>
  st 1 t17 t15 (fun w =>
  ldn 6 t3 (fun t18 w =>
  st 6 t2 t18 (fun w =>
  ldn 6 t2 (fun r0 w =>
  R (.returned r0) w) w) w) w) w) w) w) w) w) w) w) w) w) w) w) w) w) w) w
theorem e_code_maker_use (R : Ending → World → Prop) (a0 : Value) (w : World) : vcFn P tab 4000 Tryz.f72.ntmps (Tryz.f72.body.getD .skip) Tryz.f72.results.toList [a0] R w = d_code_maker_use R a0 w := by kernel_rfl
theorem t_code_maker_use (R : Ending → World → Prop) (a0 : Value) (w : World) (h : d_code_maker_use R a0 w) : Tr P F.code_maker_use [a0] w R :=
  fn_ok (fn := Tryz.f72) (c := Tryz.f72.body.getD .skip) (fuel := 4000) mixed tab_ok Tryz.func72 (by kernel_rfl) (by kernel_rfl) (Nat.le_of_ble_eq_true (by kernel_rfl)) (Eq.mpr (e_code_maker_use R a0 w) h)
/-- (*lapidary/code.maker).send -/
def d_code_maker_send (R : Ending → World → Prop) (a0 a1 a2 a3 a4 : Value) (w : World) : Prop :=
  al a2.cells.toList 50 (fun t7 w =>
  lnL a4 (fun t14 w =>
  lp 1 [(Value.int IntKind.i64 0)] (fun r1 x15 w =>
  bI .lss .i64 x15 t14 (fun t16 w =>
  cnd t16
  (ia 6 a4 x15 (fun t17 w =>
  ldn 6 t17 (fun t18 w =>
  al [.int .i64 0, .string ⟨#[]⟩, .int .i64 0, .int .i64 0, .slice none 0 0, .slice none 0 0] 50 (fun t11 w =>
  st 6 t11 t18 (fun w =>
  ldn 6 t11 (fun t21 w =>
  cl P F.code_maker_part [a0, a1, t21] (fun t22 w =>
  bI .add .i64 x15 (Value.int IntKind.i64 1) (fun t23 w =>
  sm [(a0, a0), (a1, a1), (a3, a3), (a4, a4), (t7, t7), (a4, a4), (t14, t14)] [] [] (r1 [t23] w)) w) (fun ch w => R (.panicked ch) w) w) w) w) w) w) w)
  (jn 1 (fun x12 w =>
  nc a0 (fun t36 w =>
  fa 0 t36 (fun t37 w =>
  fa 4 t37 (fun t38 w =>
  cl P F.code_once [t38, a3] (fun t40 w =>
  lnL a4 (fun t42 w =>
  cl P F.code_maker_add [a0, a1, x12, t40, t42] (fun t43 w =>
  R (.returned (.tuple #[])) w) (fun ch w => R (.panicked ch) w) w) w) (fun ch w => R (.panicked ch) w) w) w) w) w) (fun k2 =>
  fa 0 t7 (fun t24 w =>
  ld t24 (fun t25 w =>
  bI .eql .i64 t25 (Value.int IntKind.i64 5) (fun t26 w =>
  cnd t26
  (fa 1 t7 (fun t28 w =>
  ld t28 (fun t29 w =>
  bS .eql t29 (Value.string { data := #[115, 117, 112, 101, 114] }) (fun t30 w =>
  cnd t30
  (sm [(a0, a0), (a1, a1), (a3, a3), (a4, a4)] [] [] (k2 (Value.int IntKind.i64 9) w))
  (sm [(a0, a0), (a1, a1), (a3, a3), (a4, a4)] [] [] (k2 (Value.int IntKind.i64 8) w))) w) w) w)
  (sm [(a0, a0), (a1, a1), (a3, a3), (a4, a4)] [] [] (k2 (Value.int IntKind.i64 8) w))) w) w) w))) w) w) w) w
theorem e_code_maker_send (R : Ending → World → Prop) (a0 a1 a2 a3 a4 : Value) (w : World) : vcFn P tab 4000 Tryz.f73.ntmps (Tryz.f73.body.getD .skip) Tryz.f73.results.toList [a0, a1, a2, a3, a4] R w = d_code_maker_send R a0 a1 a2 a3 a4 w := by kernel_rfl
theorem t_code_maker_send (R : Ending → World → Prop) (a0 a1 a2 a3 a4 : Value) (w : World) (h : d_code_maker_send R a0 a1 a2 a3 a4 w) : Tr P F.code_maker_send [a0, a1, a2, a3, a4] w R :=
  fn_ok (fn := Tryz.f73) (c := Tryz.f73.body.getD .skip) (fuel := 4000) mixed tab_ok Tryz.func73 (by kernel_rfl) (by kernel_rfl) (Nat.le_of_ble_eq_true (by kernel_rfl)) (Eq.mpr (e_code_maker_send R a0 a1 a2 a3 a4 w) h)
end Go.Vx
set_option maxRecDepth 100000
set_option linter.unusedVariables false
namespace Go.Vx
open Go Go.Proofs
/-- (*lapidary/lex.reader).more -/
def d_lex_reader_more (R : Ending → World → Prop) (a0 a1 : Value) (w : World) : Prop :=
  drw w (fun w =>
  nc a0 (fun t6 w =>
  fa 1 t6 (fun t7 w =>
  ld t7 (fun t8 w =>
  nc a0 (fun t10 w =>
  fa 0 t10 (fun t11 w =>
  ld t11 (fun t12 w =>
  lnS t12 (fun t13 w =>
  bI .lss .i64 t8 t13 (fun t14 w =>
  cnd t14
  (nc a0 (fun t18 w =>
  fa 0 t18 (fun t19 w =>
  ld t19 (fun t20 w =>
  nc a0 (fun t22 w =>
  fa 1 t22 (fun t23 w =>
  ld t23 (fun t24 w =>
  ix t20 t24 (fun t25 w =>
  clv P a1 [t25] (fun t26 w =>
  R (.returned t26) w) (fun ch w => R (.panicked ch) w) w) w) w) w) w) w) w) w)
  (R (.returned (.bool false)) w)) w) w) w) w) w) w) w) w)
theorem e_lex_reader_more (R : Ending → World → Prop) (a0 a1 : Value) (w : World) : vcFn P tab 4000 Tryz.f91.ntmps (Tryz.f91.body.getD .skip) Tryz.f91.results.toList [a0, a1] R w = d_lex_reader_more R a0 a1 w := by kernel_rfl
theorem t_lex_reader_more (R : Ending → World → Prop) (a0 a1 : Value) (w : World) (h : d_lex_reader_more R a0 a1 w) : Tr P F.lex_reader_more [a0, a1] w R :=
  fn_ok (fn := Tryz.f91) (c := Tryz.f91.body.getD .skip) (fuel := 4000) mixed tab_ok Tryz.func91 (by kernel_rfl) (by kernel_rfl) (Nat.le_of_ble_eq_true (by kernel_rfl)) (Eq.mpr (e_lex_reader_more R a0 a1 w) h)
/-- internal/stringslite.IndexByte -/
def d_internal_stringslite_IndexByte (R : Ending → World → Prop) (a0 a1 : Value) (w : World) : Prop :=
  cl P F.internal_bytealg_IndexByteString [a0, a1] (fun t7 w =>
  R (.returned t7) w) (fun ch w => R (.panicked ch) w) w
theorem e_internal_stringslite_IndexByte (R : Ending → World → Prop) (a0 a1 : Value) (w : World) : vcFn P tab 4000 Tryz.f92.ntmps (Tryz.f92.body.getD .skip) Tryz.f92.results.toList [a0, a1] R w = d_internal_stringslite_IndexByte R a0 a1 w := by kernel_rfl
theorem t_internal_stringslite_IndexByte (R : Ending → World → Prop) (a0 a1 : Value) (w : World) (h : d_internal_stringslite_IndexByte R a0 a1 w) : Tr P F.internal_stringslite_IndexByte [a0, a1] w R :=
  fn_ok (fn := Tryz.f92) (c := Tryz.f92.body.getD .skip) (fuel := 4000) mixed tab_ok Tryz.func92 (by kernel_rfl) (by kernel_rfl) (Nat.le_of_ble_eq_true (by kernel_rfl)) (Eq.mpr (e_internal_stringslite_IndexByte R a0 a1 w) h)
/-- lapidary/lex.letter -/
def d_lex_letter (R : Ending → World → Prop) (a0 : Value) (w : World) : Prop :=
  bI .or .u8 a0 (Value.int IntKind.u8 32) (fun t4 w =>
  bI .geq .u8 t4 (Value.int IntKind.u8 97) (fun t5 w =>
  cnd t5
  (bI .or .u8 a0 (Value.int IntKind.u8 32) (fun t8 w =>
  bI .leq .u8 t8 (Value.int IntKind.u8 122) (fun t9 w =>
  R (.returned t9) w) w) w)
  (R (.returned (.bool false)) w)) w) w
theorem e_lex_letter (R : Ending → World → Prop) (a0 : Value) (w : World) : vcFn P tab 4000 Tryz.f93.ntmps (Tryz.f93.body.getD .skip) Tryz.f93.results.toList [a0] R w = d_lex_letter R a0 w := by kernel_rfl
theorem t_lex_letter (R : Ending → World → Prop) (a0 : Value) (w : World) (h : d_lex_letter R a0 w) : Tr P F.lex_letter [a0] w R :=
  fn_ok (fn := Tryz.f93) (c := Tryz.f93.body.getD .skip) (fuel := 4000) mixed tab_ok Tryz.func93 (by kernel_rfl) (by kernel_rfl) (Nat.le_of_ble_eq_true (by kernel_rfl)) (Eq.mpr (e_lex_letter R a0 w) h)
/-- (*lapidary/lex.reader).name -/
def d_lex_reader_name (R : Ending → World → Prop) (a0 : Value) (w : World) : Prop :=
  cl P F.lex_reader_more [a0, (.func (.func F.lex_letter) #[] #[])] (fun t4 w =>
  uN t4 (fun t5 w =>
  cnd t5
  (R (.returned (.bool false)) w)
  (cl P F.lex_reader_skip [a0, (.func (.func F.lex_reader_name_1) #[] #[])] (fun t7 w =>
  R (.returned (.bool true)) w) (fun ch w => R (.panicked ch) w) w)) w) (fun ch w => R (.panicked ch) w) w
theorem e_lex_reader_name (R : Ending → World → Prop) (a0 : Value) (w : World) : vcFn P tab 4000 Tryz.f94.ntmps (Tryz.f94.body.getD .skip) Tryz.f94.results.toList [a0] R w = d_lex_reader_name R a0 w := by kernel_rfl
theorem t_lex_reader_name (R : Ending → World → Prop) (a0 : Value) (w : World) (h : d_lex_reader_name R a0 w) : Tr P F.lex_reader_name [a0] w R :=
  fn_ok (fn := Tryz.f94) (c := Tryz.f94.body.getD .skip) (fuel := 4000) mixed tab_ok Tryz.func94 (by kernel_rfl) (by kernel_rfl) (Nat.le_of_ble_eq_true (by kernel_rfl)) (Eq.mpr (e_lex_reader_name R a0 w) h)
/-- (*lapidary/lex.reader).colon -/
def d_lex_reader_colon (R : Ending → World → Prop) (a0 : Value) (w : World) : Prop :=
  cl P F.lex_reader_peek [a0, (Value.int IntKind.i64 0)] (fun t4 w =>
  bI .eql .u8 t4 (Value.int IntKind.u8 58) (fun t5 w =>
  cnd t5
  (cl P F.lex_reader_peek [a0, (Value.int IntKind.i64 1)] (fun t8 w =>
  bI .neq .u8 t8 (Value.int IntKind.u8 61) (fun t9 w =>
  R (.returned t9) w) w) (fun ch w => R (.panicked ch) w) w)
  (R (.returned (.bool false)) w)) w) (fun ch w => R (.panicked ch) w) w
theorem e_lex_reader_colon (R : Ending → World → Prop) (a0 : Value) (w : World) : vcFn P tab 4000 Tryz.f95.ntmps (Tryz.f95.body.getD .skip) Tryz.f95.results.toList [a0] R w = d_lex_reader_colon R a0 w := by kernel_rfl
theorem t_lex_reader_colon (R : Ending → World → Prop) (a0 : Value) (w : World) (h : d_lex_reader_colon R a0 w) : Tr P F.lex_reader_colon [a0] w R :=
  fn_ok (fn := Tryz.f95) (c := Tryz.f95.body.getD .skip) (fuel := 4000) mixed tab_ok Tryz.func95 (by kernel_rfl) (by kernel_rfl) (Nat.le_of_ble_eq_true (by kernel_rfl)) (Eq.mpr (e_lex_reader_colon R a0 w) h)
/-- lapidary/lex.digit -/
def d_lex_digit (R : Ending → World → Prop) (a0 : Value) (w : World) : Prop :=
  bI .geq .u8 a0 (Value.int IntKind.u8 48) (fun t4 w =>
  cnd t4
  (bI .leq .u8 a0 (Value.int IntKind.u8 57) (fun t7 w =>
  R (.returned t7) w) w)
  (R (.returned (.bool false)) w)) w
theorem e_lex_digit (R : Ending → World → Prop) (a0 : Value) (w : World) : vcFn P tab 4000 Tryz.f96.ntmps (Tryz.f96.body.getD .skip) Tryz.f96.results.toList [a0] R w = d_lex_digit R a0 w := by kernel_rfl
theorem t_lex_digit (R : Ending → World → Prop) (a0 : Value) (w : World) (h : d_lex_digit R a0 w) : Tr P F.lex_digit [a0] w R :=
  fn_ok (fn := Tryz.f96) (c := Tryz.f96.body.getD .skip) (fuel := 4000) mixed tab_ok Tryz.func96 (by kernel_rfl) (by kernel_rfl) (Nat.le_of_ble_eq_true (by kernel_rfl)) (Eq.mpr (e_lex_digit R a0 w) h)
/-- lapidary/whole.Read -/
def d_whole_Read (R : Ending → World → Prop) (a0 : Value) (w : World) : Prop :=
  al [.bool false, .slice none 0 0] 178 (fun t2 w =>
  cl P F.strings_CutPrefix [a0, (Value.string { data := #[45] })] (fun t12 w =>
  ex t12 0 (fun t13 w =>
  ex t12 1 (fun t14 w =>
  jn 1 (fun x3 w =>
  lnS a0 (fun t35 w =>
  bI .gtr .i64 t35 (Value.int IntKind.i64 400) (fun t36 w =>
  cnd t36
  (bd [.bool false, .slice none 0 0] [] (fun t37 w =>
  st 2 t2 t37 (fun w =>
  ldn 2 t2 (fun r0 w =>
  R (.returned (.tuple #[r0, (Value.int IntKind.i64 24)])) w) w) w) w)
  (cSB 5 t13 (fun t39 w =>
  lnL t39 (fun t40 w =>
  lp 2 [(Value.slice none 0 0), (Value.int IntKind.i64 0)] (fun r2 x7 x41 w =>
  bI .lss .i64 x41 t40 (fun t42 w =>
  cnd t42
  (ia 1 t39 x41 (fun t43 w =>
  ld t43 (fun t44 w =>
  bs 211 [.int .u32 0] 1 [(0, 1, (Value.int IntKind.u32 10))] (fun t46 w =>
  cl P F.whole_times [x7, t46] (fun t47 w =>
  bI .sub .u8 t44 (Value.int IntKind.u8 48) (fun t49 w =>
  cI .u32 t49 (fun t50 w =>
  bs 211 [.int .u32 0] 1 [(0, 1, t50)] (fun t51 w =>
  cl P F.whole_words_trim [t51] (fun t52 w =>
  cl P F.whole_plus [t47, t52] (fun t53 w =>
  bI .add .i64 x41 (Value.int IntKind.i64 1) (fun t54 w =>
  sm [(t2, t2), (x3, x3), (t14, t14), (t39, t39), (t40, t40)] [] [] (r2 [t53, t54] w)) w) (fun ch w => R (.panicked ch) w) w) (fun ch w => R (.panicked ch) w) w) w) w) w) (fun ch w => R (.panicked ch) w) w) w) w) w)
  (cl P F.whole_fits [t14, x7] (fun t57 w =>
  ex t57 0 (fun t58 w =>
  ex t57 1 (fun t59 w =>
  st 2 t2 t58 (fun w =>
  ldn 2 t2 (fun r0 w =>
  R (.returned (.tuple #[r0, t59])) w) w) w) w) w) (fun ch w => R (.panicked ch) w) w)) w) w) w) w)) w) w) (fun k1 =>
  bS .eql t13 (Value.string { data := #[] }) (fun t16 w =>
  cnd t16
  (bd [.bool false, .slice none 0 0] [] (fun t33 w =>
  st 2 t2 t33 (fun w =>
  ldn 2 t2 (fun r0 w =>
  R (.returned (.tuple #[r0, (Value.int IntKind.i64 11)])) w) w) w) w)
  (cl P F.strings_IndexFunc [t13, (.func (.func F.whole_Read_1) #[] #[])] (fun t20 w =>
  bI .geq .i64 t20 (Value.int IntKind.i64 0) (fun t21 w =>
  cnd t21
  (bd [.bool false, .slice none 0 0] [] (fun t33 w =>
  st 2 t2 t33 (fun w =>
  ldn 2 t2 (fun r0 w =>
  R (.returned (.tuple #[r0, (Value.int IntKind.i64 11)])) w) w) w) w)
  (ix t13 (Value.int IntKind.i64 0) (fun t25 w =>
  bI .eql .u8 t25 (Value.int IntKind.u8 48) (fun t26 w =>
  cnd t26
  (lnS a0 (fun t29 w =>
  bI .gtr .i64 t29 (Value.int IntKind.i64 1) (fun t30 w =>
  cnd t30
  (bd [.bool false, .slice none 0 0] [] (fun t33 w =>
  st 2 t2 t33 (fun w =>
  ldn 2 t2 (fun r0 w =>
  R (.returned (.tuple #[r0, (Value.int IntKind.i64 11)])) w) w) w) w)
  (sm [(a0, a0), (t2, t2), (t13, t13), (t14, t14)] [] [] (k1 (Value.int IntKind.i64 0) w))) w) w)
  (sm [(a0, a0), (t2, t2), (t13, t13), (t14, t14)] [] [] (k1 (Value.int IntKind.i64 0) w))) w) w)) w) (fun ch w => R (.panicked ch) w) w)) w)) w) w) (fun ch w => R (.panicked ch) w) w) w
theorem e_whole_Read (R : Ending → World → Prop) (a0 : Value) (w : World) : vcFn P tab 4000 Tryz.f97.ntmps (Tryz.f97.body.getD .skip) Tryz.f97.results.toList [a0] R w = d_whole_Read R a0 w := by kernel_rfl
theorem t_whole_Read (R : Ending → World → Prop) (a0 : Value) (w : World) (h : d_whole_Read R a0 w) : Tr P F.whole_Read [a0] w R :=
  fn_ok (fn := Tryz.f97) (c := Tryz.f97.body.getD .skip) (fuel := 4000) mixed tab_ok Tryz.func97 (by kernel_rfl) (by kernel_rfl) (Nat.le_of_ble_eq_true (by kernel_rfl)) (Eq.mpr (e_whole_Read R a0 w) h)
/-- (*lapidary/lex.reader).quoted -/
def d_lex_reader_quoted (R : Ending → World → Prop) (a0 : Value) (w : World) : Prop :=
  sc 2 (fun j1 =>
  al [.pointer none, .slice none 0 0] 189 (fun t4 w =>
  cl P F.lex_reader_peek [a0, (Value.int IntKind.i64 0)] (fun t6 w =>
  bI .neq .u8 t6 (Value.int IntKind.u8 39) (fun t7 w =>
  cnd t7
  (sm [] [] [] (j1 0 [(Value.string { data := #[] }), (.bool false)] w))
  (nc a0 (fun t9 w =>
  fa 1 t9 (fun t10 w =>
  ld t10 (fun t11 w =>
  bI .add .i64 t11 (Value.int IntKind.i64 1) (fun t12 w =>
  nc a0 (fun t13 w =>
  fa 1 t13 (fun t14 w =>
  st 1 t14 t12 (fun w =>
  lp 2 [(Value.string { data := #[] }), (.bool false)] (fun r2 x2 x3 w =>
  drw w (fun w =>
  nc a0 (fun t16 w =>
  fa 1 t16 (fun t17 w =>
  ld t17 (fun t18 w =>
  nc a0 (fun t20 w =>
  fa 0 t20 (fun t21 w =>
  ld t21 (fun t22 w =>
  lnS t22 (fun t23 w =>
  bI .lss .i64 t18 t23 (fun t24 w =>
  cnd t24
  (jn 2 (fun x2 x3 w =>
  nc a0 (fun t26 w =>
  fa 1 t26 (fun t27 w =>
  ld t27 (fun t28 w =>
  bI .add .i64 t28 (Value.int IntKind.i64 1) (fun t29 w =>
  nc a0 (fun t30 w =>
  fa 1 t30 (fun t31 w =>
  st 1 t31 t29 (fun w =>
  sm [(a0, a0), (t4, t4)] [] [] (r2 [x2, x3] w)) w) w) w) w) w) w) w) (fun k3 =>
  jn 2 (fun x2 x3 w =>
  drw w (fun w =>
  nc a0 (fun t63 w =>
  fa 0 t63 (fun t64 w =>
  ld t64 (fun t65 w =>
  nc a0 (fun t67 w =>
  fa 1 t67 (fun t68 w =>
  ld t68 (fun t69 w =>
  ix t65 t69 (fun t70 w =>
  cl P F.strings_Builder_WriteByte [t4, t70] (fun t71 w =>
  sm [(a0, a0), (t4, t4)] [] [] (k3 x2 x3 w)) (fun ch w => R (.panicked ch) w) w) w) w) w) w) w) w) w)) (fun k4 =>
  drw w (fun w =>
  nc a0 (fun t33 w =>
  fa 0 t33 (fun t34 w =>
  ld t34 (fun t35 w =>
  nc a0 (fun t37 w =>
  fa 1 t37 (fun t38 w =>
  ld t38 (fun t39 w =>
  ix t35 t39 (fun t40 w =>
  bI .eql .u8 t40 (Value.int IntKind.u8 39) (fun t41 w =>
  cnd t41
  (cl P F.lex_reader_peek [a0, (Value.int IntKind.i64 1)] (fun t43 w =>
  bI .neq .u8 t43 (Value.int IntKind.u8 39) (fun t44 w =>
  cnd t44
  (nc a0 (fun t46 w =>
  fa 1 t46 (fun t47 w =>
  ld t47 (fun t48 w =>
  bI .add .i64 t48 (Value.int IntKind.i64 1) (fun t49 w =>
  nc a0 (fun t50 w =>
  fa 1 t50 (fun t51 w =>
  st 1 t51 t49 (fun w =>
  cl P F.strings_Builder_String [t4] (fun t52 w =>
  cl P F.strings_Builder_Len [t4] (fun t53 w =>
  bI .leq .i64 t53 (Value.int IntKind.i64 1024) (fun t54 w =>
  R (.returned (.tuple #[t52, t54])) w) w) (fun ch w => R (.panicked ch) w) w) (fun ch w => R (.panicked ch) w) w) w) w) w) w) w) w) w)
  (nc a0 (fun t56 w =>
  fa 1 t56 (fun t57 w =>
  ld t57 (fun t58 w =>
  bI .add .i64 t58 (Value.int IntKind.i64 1) (fun t59 w =>
  nc a0 (fun t60 w =>
  fa 1 t60 (fun t61 w =>
  st 1 t61 t59 (fun w =>
  sm [(a0, a0), (t4, t4)] [] [] (k4 x2 x3 w)) w) w) w) w) w) w) w)) w) (fun ch w => R (.panicked ch) w) w)
  (sm [(a0, a0), (t4, t4)] [] [] (k4 x2 x3 w))) w) w) w) w) w) w) w) w))))
  (R (.returned (.tuple #[(Value.string { data := #[] }), (.bool false)])) w)) w) w) w) w) w) w) w) w)) w) w) w) w) w) w) w) w)) w) (fun ch w => R (.panicked ch) w) w) w) [(0, fun j1 x2 x3 w =>
  R (.returned (.tuple #[(Value.string { data := #[] }), (.bool false)])) w)]
theorem e_lex_reader_quoted (R : Ending → World → Prop) (a0 : Value) (w : World) : vcFn P tab 4000 Tryz.f98.ntmps (Tryz.f98.body.getD .skip) Tryz.f98.results.toList [a0] R w = d_lex_reader_quoted R a0 w := by kernel_rfl
theorem t_lex_reader_quoted (R : Ending → World → Prop) (a0 : Value) (w : World) (h : d_lex_reader_quoted R a0 w) : Tr P F.lex_reader_quoted [a0] w R :=
  fn_ok (fn := Tryz.f98) (c := Tryz.f98.body.getD .skip) (fuel := 4000) mixed tab_ok Tryz.func98 (by kernel_rfl) (by kernel_rfl) (Nat.le_of_ble_eq_true (by kernel_rfl)) (Eq.mpr (e_lex_reader_quoted R a0 w) h)
/-- (*lapidary/lex.reader).peek -/
def d_lex_reader_peek (R : Ending → World → Prop) (a0 a1 : Value) (w : World) : Prop :=
  drw w (fun w =>
  nc a0 (fun t6 w =>
  fa 1 t6 (fun t7 w =>
  ld t7 (fun t8 w =>
  bI .add .i64 t8 a1 (fun t10 w =>
  nc a0 (fun t12 w =>
  fa 0 t12 (fun t13 w =>
  ld t13 (fun t14 w =>
  lnS t14 (fun t15 w =>
  bI .lss .i64 t10 t15 (fun t16 w =>
  cnd t16
  (drw w (fun w =>
  nc a0 (fun t18 w =>
  fa 0 t18 (fun t19 w =>
  ld t19 (fun t20 w =>
  nc a0 (fun t22 w =>
  fa 1 t22 (fun t23 w =>
  ld t23 (fun t24 w =>
  bI .add .i64 t24 a1 (fun t26 w =>
  ix t20 t26 (fun t27 w =>
  R (.returned t27) w) w) w) w) w) w) w) w) w))
  (R (.returned (Value.int IntKind.u8 0)) w)) w) w) w) w) w) w) w) w) w)
theorem e_lex_reader_peek (R : Ending → World → Prop) (a0 a1 : Value) (w : World) : vcFn P tab 4000 Tryz.f99.ntmps (Tryz.f99.body.getD .skip) Tryz.f99.results.toList [a0, a1] R w = d_lex_reader_peek R a0 a1 w := by kernel_rfl
theorem t_lex_reader_peek (R : Ending → World → Prop) (a0 a1 : Value) (w : World) (h : d_lex_reader_peek R a0 a1 w) : Tr P F.lex_reader_peek [a0, a1] w R :=
  fn_ok (fn := Tryz.f99) (c := Tryz.f99.body.getD .skip) (fuel := 4000) mixed tab_ok Tryz.func99 (by kernel_rfl) (by kernel_rfl) (Nat.le_of_ble_eq_true (by kernel_rfl)) (Eq.mpr (e_lex_reader_peek R a0 a1 w) h)
/-- (*lapidary/lex.reader).symbol -/
def d_lex_reader_symbol (R : Ending → World → Prop) (a0 : Value) (w : World) : Prop :=
  nc a0 (fun t6 w =>
  fa 1 t6 (fun t7 w =>
  ld t7 (fun t8 w =>
  jn 2 (fun x2 x3 w =>
  drw w (fun w =>
  nc a0 (fun t30 w =>
  fa 0 t30 (fun t31 w =>
  ld t31 (fun t32 w =>
  nc a0 (fun t35 w =>
  fa 1 t35 (fun t36 w =>
  ld t36 (fun t37 w =>
  slS t32 (some t8) (some t37) (fun t38 w =>
  nc a0 (fun t40 w =>
  fa 1 t40 (fun t41 w =>
  ld t41 (fun t42 w =>
  bI .sub .i64 t42 t8 (fun t44 w =>
  bI .leq .i64 t44 (Value.int IntKind.i64 1024) (fun t45 w =>
  R (.returned (.tuple #[t38, t45])) w) w) w) w) w) w) w) w) w) w) w) w) w)) (fun k1 =>
  cl P F.lex_reader_name [a0] (fun t10 w =>
  cnd t10
  (lp 0 [] (fun r2 w =>
  cl P F.lex_reader_colon [a0] (fun t12 w =>
  cnd t12
  (nc a0 (fun t14 w =>
  fa 1 t14 (fun t15 w =>
  ld t15 (fun t16 w =>
  bI .add .i64 t16 (Value.int IntKind.i64 1) (fun t17 w =>
  nc a0 (fun t18 w =>
  fa 1 t18 (fun t19 w =>
  st 1 t19 t17 (fun w =>
  cl P F.lex_reader_name [a0] (fun t21 w =>
  sm [(a0, a0), ((Value.string { data := #[] }), (Value.string { data := #[] })), ((.bool false), (.bool false)), (t8, t8)] [] [] (r2 [] w)) (fun ch w => R (.panicked ch) w) w) w) w) w) w) w) w) w)
  (sm [(a0, a0), (t8, t8)] [] [] (k1 (Value.string { data := #[] }) (.bool false) w))) (fun ch w => R (.panicked ch) w) w) w)
  (cl P F.lex_reader_sign [a0] (fun t23 w =>
  uN t23 (fun t24 w =>
  cnd t24
  (cl P F.lex_reader_quoted [a0] (fun t26 w =>
  ex t26 0 (fun t27 w =>
  ex t26 1 (fun t28 w =>
  R (.returned (.tuple #[t27, t28])) w) w) w) (fun ch w => R (.panicked ch) w) w)
  (sm [(a0, a0), (t8, t8)] [] [] (k1 (Value.string { data := #[] }) (.bool false) w))) w) (fun ch w => R (.panicked ch) w) w)) (fun ch w => R (.panicked ch) w) w)) w) w) w
theorem e_lex_reader_symbol (R : Ending → World → Prop) (a0 : Value) (w : World) : vcFn P tab 4000 Tryz.f100.ntmps (Tryz.f100.body.getD .skip) Tryz.f100.results.toList [a0] R w = d_lex_reader_symbol R a0 w := by kernel_rfl
theorem t_lex_reader_symbol (R : Ending → World → Prop) (a0 : Value) (w : World) (h : d_lex_reader_symbol R a0 w) : Tr P F.lex_reader_symbol [a0] w R :=
  fn_ok (fn := Tryz.f100) (c := Tryz.f100.body.getD .skip) (fuel := 4000) mixed tab_ok Tryz.func100 (by kernel_rfl) (by kernel_rfl) (Nat.le_of_ble_eq_true (by kernel_rfl)) (Eq.mpr (e_lex_reader_symbol R a0 w) h)
/-- (*lapidary/lex.reader).sign -/
def d_lex_reader_sign (R : Ending → World → Prop) (a0 : Value) (w : World) : Prop :=
  nc a0 (fun t5 w =>
  fa 1 t5 (fun t6 w =>
  ld t6 (fun t7 w =>
  lp 0 [] (fun r1 w =>
  jn 2 (fun x16 x17 w =>
  nc a0 (fun t20 w =>
  fa 1 t20 (fun t21 w =>
  ld t21 (fun t22 w =>
  bI .add .i64 t22 (Value.int IntKind.i64 1) (fun t23 w =>
  nc a0 (fun t24 w =>
  fa 1 t24 (fun t25 w =>
  st 1 t25 t23 (fun w =>
  sm [(a0, a0), ((.bool false), (.bool false)), (t7, t7)] [] [] (r1 [] w)) w) w) w) w) w) w) w) (fun k2 =>
  nc a0 (fun t9 w =>
  fa 1 t9 (fun t10 w =>
  ld t10 (fun t11 w =>
  bI .add .i64 t7 (Value.int IntKind.i64 2) (fun t13 w =>
  bI .lss .i64 t11 t13 (fun t14 w =>
  cnd t14
  (cl P F.lex_reader_more [a0, (.func (.func F.lex_reader_sign_1) #[] #[])] (fun t17 w =>
  cnd t17
  (sm [(a0, a0), ((.bool false), (.bool false)), (t7, t7)] [] [] (k2 a0 t17 w))
  (nc a0 (fun t27 w =>
  fa 1 t27 (fun t28 w =>
  ld t28 (fun t29 w =>
  bI .gtr .i64 t29 t7 (fun t31 w =>
  R (.returned t31) w) w) w) w) w)) (fun ch w => R (.panicked ch) w) w)
  (nc a0 (fun t27 w =>
  fa 1 t27 (fun t28 w =>
  ld t28 (fun t29 w =>
  bI .gtr .i64 t29 t7 (fun t31 w =>
  R (.returned t31) w) w) w) w) w)) w) w) w) w) w)) w) w) w) w
theorem e_lex_reader_sign (R : Ending → World → Prop) (a0 : Value) (w : World) : vcFn P tab 4000 Tryz.f101.ntmps (Tryz.f101.body.getD .skip) Tryz.f101.results.toList [a0] R w = d_lex_reader_sign R a0 w := by kernel_rfl
theorem t_lex_reader_sign (R : Ending → World → Prop) (a0 : Value) (w : World) (h : d_lex_reader_sign R a0 w) : Tr P F.lex_reader_sign [a0] w R :=
  fn_ok (fn := Tryz.f101) (c := Tryz.f101.body.getD .skip) (fuel := 4000) mixed tab_ok Tryz.func101 (by kernel_rfl) (by kernel_rfl) (Nat.le_of_ble_eq_true (by kernel_rfl)) (Eq.mpr (e_lex_reader_sign R a0 w) h)
/-- (*lapidary/tree.parser).expression -/
def d_tree_parser_expression (R : Ending → World → Prop) (a0 : Value) (w : World) : Prop :=
  al a0.cells.toList 70 (fun t1 w =>
  al [.int .i64 0, .string ⟨#[]⟩, .int .i64 0, .int .i64 0, .slice none 0 0, .slice none 0 0] 50 (fun t2 w =>
  jn 1 (fun x17 w =>
  cnd x17
  (ld t1 (fun t18 w =>
  cl P F.tree_parser_take [t18] (fun t19 w =>
  al [.int .i64 0, .string ⟨#[]⟩, .int .i64 0] 112 (fun t3 w =>
  st 3 t3 t19 (fun w =>
  fa 1 t3 (fun t20 w =>
  ld t20 (fun t21 w =>
  fa 2 t3 (fun t22 w =>
  ld t22 (fun t23 w =>
  bd [.int .i64 0, .string ⟨#[]⟩, .int .i64 0, .int .i64 0, .slice none 0 0, .slice none 0 0] [(0, 1, (Value.int IntKind.i64 6)), (1, 1, t21), (2, 1, t23)] (fun t24 w =>
  al [.int .i64 0, .string ⟨#[]⟩, .int .i64 0, .int .i64 0, .slice none 0 0, .slice none 0 0] 50 (fun t4 w =>
  st 6 t4 t24 (fun w =>
  ld t1 (fun t25 w =>
  cl P F.tree_parser_within [t25, (.func (.func F.tree_parser_expression_1) #[] #[t1, t4])] (fun t27 w =>
  ldn 6 t4 (fun t28 w =>
  st 6 t2 t28 (fun w =>
  ldn 6 t2 (fun r0 w =>
  R (.returned r0) w) w) w) w) (fun ch w => R (.panicked ch) w) w) w) w) w) w) w) w) w) w) w) w) (fun ch w => R (.panicked ch) w) w) w)
  (ld t1 (fun t29 w =>
  cl P F.tree_parser_cascade [t29] (fun t30 w =>
  st 6 t2 t30 (fun w =>
  ldn 6 t2 (fun r0 w =>
  R (.returned r0) w) w) w) (fun ch w => R (.panicked ch) w) w) w)) (fun k1 =>
  ld t1 (fun t5 w =>
  cl P F.tree_parser_kind [t5] (fun t6 w =>
  bI .eql .i64 t6 (Value.int IntKind.i64 1) (fun t7 w =>
  cnd t7
  (ld t1 (fun t9 w =>
  nc t9 (fun t10 w =>
  fa 0 t10 (fun t11 w =>
  ld t11 (fun t12 w =>
  ia 3 t12 (Value.int IntKind.i64 1) (fun t13 w =>
  fa 0 t13 (fun t14 w =>
  ld t14 (fun t15 w =>
  bI .eql .i64 t15 (Value.int IntKind.i64 7) (fun t16 w =>
  sm [(t1, t1), (t2, t2)] [] [] (k1 t16 w)) w) w) w) w) w) w) w) w)
  (sm [(t1, t1), (t2, t2)] [] [] (k1 (.bool false) w))) w) (fun ch w => R (.panicked ch) w) w) w)) w) w
theorem e_tree_parser_expression (R : Ending → World → Prop) (a0 : Value) (w : World) : vcFn P tab 4000 Tryz.f102.ntmps (Tryz.f102.body.getD .skip) Tryz.f102.results.toList [a0] R w = d_tree_parser_expression R a0 w := by kernel_rfl
theorem t_tree_parser_expression (R : Ending → World → Prop) (a0 : Value) (w : World) (h : d_tree_parser_expression R a0 w) : Tr P F.tree_parser_expression [a0] w R :=
  fn_ok (fn := Tryz.f102) (c := Tryz.f102.body.getD .skip) (fuel := 4000) mixed tab_ok Tryz.func102 (by kernel_rfl) (by kernel_rfl) (Nat.le_of_ble_eq_true (by kernel_rfl)) (Eq.mpr (e_tree_parser_expression R a0 w) h)
/-- slices.Index[[]string,string] -/
def d_slices_Index_string_string (R : Ending → World → Prop) (a0 a1 : Value) (w : World) : Prop :=
  lnL a0 (fun t7 w =>
  lp 2 [(Value.int IntKind.i64 0), (Value.int IntKind.i64 0)] (fun r1 x4 x8 w =>
  bI .lss .i64 x8 t7 (fun t9 w =>
  cnd t9
  (ia 1 a0 x8 (fun t14 w =>
  ld t14 (fun t15 w =>
  bS .eql a1 t15 (fun t16 w =>
  cnd t16
  (R (.returned x8) w)
  (bI .add .i64 x8 (Value.int IntKind.i64 1) (fun t18 w =>
  sm [(a0, a0), (a1, a1), (t7, t7)] [] [] (r1 [x4, t18] w)) w)) w) w) w)
  (R (.returned (Value.int IntKind.i64 (-1))) w)) w) w) w
theorem e_slices_Index_string_string (R : Ending → World → Prop) (a0 a1 : Value) (w : World) : vcFn P tab 4000 Tryz.f103.ntmps (Tryz.f103.body.getD .skip) Tryz.f103.results.toList [a0, a1] R w = d_slices_Index_string_string R a0 a1 w := by kernel_rfl
theorem t_slices_Index_string_string (R : Ending → World → Prop) (a0 a1 : Value) (w : World) (h : d_slices_Index_string_string R a0 a1 w) : Tr P F.slices_Index_string_string [a0, a1] w R :=
  fn_ok (fn := Tryz.f103) (c := Tryz.f103.body.getD .skip) (fuel := 4000) mixed tab_ok Tryz.func103 (by kernel_rfl) (by kernel_rfl) (Nat.le_of_ble_eq_true (by kernel_rfl)) (Eq.mpr (e_slices_Index_string_string R a0 a1 w) h)
/-- (*lapidary/scope.walk).find -/
def d_scope_walk_find (R : Ending → World → Prop) (a0 a1 a2 : Value) (w : World) : Prop :=
  al [.int .i64 0, .string ⟨#[]⟩, .int .i64 0, .int .i64 0, .int .i64 0, .bool false] 146 (fun t6 w =>
  cl P F.scope_fixed [a1] (fun t15 w =>
  ex t15 0 (fun t16 w =>
  ex t15 1 (fun t17 w =>
  al [.int .i64 0, .string ⟨#[]⟩, .int .i64 0, .int .i64 0, .int .i64 0, .bool false] 146 (fun t8 w =>
  st 6 t8 t16 (fun w =>
  cnd t17
  (ldn 6 t8 (fun t19 w =>
  st 6 t6 t19 (fun w =>
  ldn 6 t6 (fun r0 w =>
  R (.returned (.tuple #[r0, (.bool false)])) w) w) w) w)
  (lp 3 [a2, (.bool false), (Value.int IntKind.i64 0)] (fun r1 x2 x7 x10 w =>
  bN .neq (.ptr 144) x2 (Value.pointer none) (fun t21 w =>
  cnd t21
  (nc x2 (fun t29 w =>
  fa 0 t29 (fun t30 w =>
  fa 4 t30 (fun t31 w =>
  ld t31 (fun t32 w =>
  cl P F.slices_Index_string_string [t32, a1] (fun t34 w =>
  bI .geq .i64 t34 (Value.int IntKind.i64 0) (fun t36 w =>
  cnd t36
  (fa 2 t8 (fun t39 w =>
  st 1 t39 (Value.int IntKind.i64 3) (fun w =>
  fa 3 t8 (fun t40 w =>
  st 1 t40 x10 (fun w =>
  fa 4 t8 (fun t41 w =>
  st 1 t41 t34 (fun w =>
  drw w (fun w =>
  ldn 6 t8 (fun t42 w =>
  nc x2 (fun t45 w =>
  fa 0 t45 (fun t46 w =>
  fa 3 t46 (fun t47 w =>
  ld t47 (fun t48 w =>
  bI .lss .i64 t34 t48 (fun t49 w =>
  st 6 t6 t42 (fun w =>
  rk false t47 t48
  (ldn 6 t6 (fun r0 w =>
  R (.returned (.tuple #[r0, t49])) w) w) w) w) w) w) w) w) w) w)) w) w) w) w) w) w)
  (drw w (fun w =>
  bI .add .i64 x10 (Value.int IntKind.i64 1) (fun t23 w =>
  nc x2 (fun t25 w =>
  fa 6 t25 (fun t26 w =>
  ld t26 (fun t27 w =>
  sm [(a0, a0), (a1, a1), (t6, t6), (t8, t8)] [] [] (r1 [t27, x7, t23] w)) w) w) w) w))) w) (fun ch w => R (.panicked ch) w) w) w) w) w) w)
  (fa 2 t8 (fun t50 w =>
  st 1 t50 (Value.int IntKind.i64 (-1)) (fun w =>
  nc a0 (fun t52 w =>
  fa 0 t52 (fun t53 w =>
  ld t53 (fun t54 w =>
  cl P F.slices_Index_string_string [t54, a1] (fun t56 w =>
  bI .geq .i64 t56 (Value.int IntKind.i64 0) (fun t58 w =>
  cnd t58
  (fa 2 t8 (fun t60 w =>
  st 1 t60 (Value.int IntKind.i64 4) (fun w =>
  fa 4 t8 (fun t61 w =>
  st 1 t61 t56 (fun w =>
  ldn 6 t8 (fun t75 w =>
  st 6 t6 t75 (fun w =>
  ldn 6 t6 (fun r0 w =>
  R (.returned (.tuple #[r0, (.bool false)])) w) w) w) w) w) w) w) w)
  (bS .neq a1 (Value.string { data := #[] }) (fun t63 w =>
  cnd t63
  (ix a1 (Value.int IntKind.i64 0) (fun t66 w =>
  bI .geq .u8 t66 (Value.int IntKind.u8 65) (fun t67 w =>
  cnd t67
  (ix a1 (Value.int IntKind.i64 0) (fun t71 w =>
  bI .leq .u8 t71 (Value.int IntKind.u8 90) (fun t72 w =>
  cnd t72
  (fa 2 t8 (fun t74 w =>
  st 1 t74 (Value.int IntKind.i64 5) (fun w =>
  ldn 6 t8 (fun t75 w =>
  st 6 t6 t75 (fun w =>
  ldn 6 t6 (fun r0 w =>
  R (.returned (.tuple #[r0, (.bool false)])) w) w) w) w) w) w)
  (ldn 6 t8 (fun t75 w =>
  st 6 t6 t75 (fun w =>
  ldn 6 t6 (fun r0 w =>
  R (.returned (.tuple #[r0, (.bool false)])) w) w) w) w)) w) w)
  (ldn 6 t8 (fun t75 w =>
  st 6 t6 t75 (fun w =>
  ldn 6 t6 (fun r0 w =>
  R (.returned (.tuple #[r0, (.bool false)])) w) w) w) w)) w) w)
  (ldn 6 t8 (fun t75 w =>
  st 6 t6 t75 (fun w =>
  ldn 6 t6 (fun r0 w =>
  R (.returned (.tuple #[r0, (.bool false)])) w) w) w) w)) w)) w) (fun ch w => R (.panicked ch) w) w) w) w) w) w) w)) w) w)) w) w) w) w) (fun ch w => R (.panicked ch) w) w) w
theorem e_scope_walk_find (R : Ending → World → Prop) (a0 a1 a2 : Value) (w : World) : vcFn P tab 4000 Tryz.f104.ntmps (Tryz.f104.body.getD .skip) Tryz.f104.results.toList [a0, a1, a2] R w = d_scope_walk_find R a0 a1 a2 w := by kernel_rfl
theorem t_scope_walk_find (R : Ending → World → Prop) (a0 a1 a2 : Value) (w : World) (h : d_scope_walk_find R a0 a1 a2 w) : Tr P F.scope_walk_find [a0, a1, a2] w R :=
  fn_ok (fn := Tryz.f104) (c := Tryz.f104.body.getD .skip) (fuel := 4000) mixed tab_ok Tryz.func104 (by kernel_rfl) (by kernel_rfl) (Nat.le_of_ble_eq_true (by kernel_rfl)) (Eq.mpr (e_scope_walk_find R a0 a1 a2 w) h)
/-- (*lapidary/tree.writer).node -/
def d_tree_writer_node (R : Ending → World → Prop) (a0 a1 : Value) (w : World) : Prop :=
  al a1.cells.toList 50 (fun t3 w =>
  fa 0 t3 (fun t9 w =>
  ld t9 (fun t10 w =>
  bI .eql .i64 t10 (Value.int IntKind.i64 2) (fun t18 w =>
  cnd t18
  (drw w (fun w =>
  nc a0 (fun t20 w =>
  fa 0 t20 (fun t21 w =>
  fa 1 t3 (fun t22 w =>
  ld t22 (fun t23 w =>
  cl P F.lex_Quote [t23] (fun t24 w =>
  cl P F.strings_Builder_WriteString [t21, t24] (fun t25 w =>
  R (.returned (.tuple #[])) w) (fun ch w => R (.panicked ch) w) w) (fun ch w => R (.panicked ch) w) w) w) w) w) w))
  (bI .eql .i64 t10 (Value.int IntKind.i64 3) (fun t27 w =>
  cnd t27
  (fa 1 t3 (fun t28 w =>
  ld t28 (fun t29 w =>
  jn 1 (fun x4 w =>
  nc a0 (fun t36 w =>
  fa 0 t36 (fun t37 w =>
  bS .add (Value.string { data := #[35] }) x4 (fun t39 w =>
  cl P F.strings_Builder_WriteString [t37, t39] (fun t40 w =>
  R (.returned (.tuple #[])) w) (fun ch w => R (.panicked ch) w) w) w) w) w) (fun k1 =>
  cl P F.lex_PlainSymbol [t29] (fun t31 w =>
  uN t31 (fun t32 w =>
  cnd t32
  (cl P F.lex_Quote [t29] (fun t34 w =>
  sm [(a0, a0)] [] [] (k1 t34 w)) (fun ch w => R (.panicked ch) w) w)
  (sm [(a0, a0)] [] [] (k1 t29 w))) w) (fun ch w => R (.panicked ch) w) w)) w) w)
  (bI .eql .i64 t10 (Value.int IntKind.i64 4) (fun t42 w =>
  cnd t42
  (nc a0 (fun t44 w =>
  fa 0 t44 (fun t45 w =>
  cl P F.strings_Builder_WriteString [t45, (Value.string { data := #[35, 40] })] (fun t46 w =>
  fa 5 t3 (fun t48 w =>
  ld t48 (fun t49 w =>
  cl P F.tree_writer_list [a0, t49, (Value.string { data := #[32] })] (fun t50 w =>
  nc a0 (fun t52 w =>
  fa 0 t52 (fun t53 w =>
  cl P F.strings_Builder_WriteByte [t53, (Value.int IntKind.u8 41)] (fun t54 w =>
  R (.returned (.tuple #[])) w) (fun ch w => R (.panicked ch) w) w) w) w) (fun ch w => R (.panicked ch) w) w) w) w) (fun ch w => R (.panicked ch) w) w) w) w)
  (bI .eql .i64 t10 (Value.int IntKind.i64 6) (fun t56 w =>
  cnd t56
  (drw w (fun w =>
  nc a0 (fun t58 w =>
  fa 0 t58 (fun t59 w =>
  fa 1 t3 (fun t60 w =>
  ld t60 (fun t61 w =>
  bS .add t61 (Value.string { data := #[32, 58, 61, 32] }) (fun t62 w =>
  cl P F.strings_Builder_WriteString [t59, t62] (fun t63 w =>
  fa 5 t3 (fun t65 w =>
  ld t65 (fun t66 w =>
  ia 6 t66 (Value.int IntKind.i64 0) (fun t67 w =>
  ldn 6 t67 (fun t68 w =>
  cl P F.tree_writer_node [a0, t68] (fun t69 w =>
  R (.returned (.tuple #[])) w) (fun ch w => R (.panicked ch) w) w) w) w) w) w) (fun ch w => R (.panicked ch) w) w) w) w) w) w) w))
  (bI .eql .i64 t10 (Value.int IntKind.i64 7) (fun t71 w =>
  cnd t71
  (drw w (fun w =>
  fa 5 t3 (fun t73 w =>
  ld t73 (fun t74 w =>
  ia 6 t74 (Value.int IntKind.i64 0) (fun t75 w =>
  ldn 6 t75 (fun t76 w =>
  fa 1 t3 (fun t77 w =>
  ld t77 (fun t78 w =>
  cl P F.tree_writer_to [a0, t76, t78] (fun t79 w =>
  drw w (fun w =>
  fa 1 t3 (fun t81 w =>
  ld t81 (fun t82 w =>
  fa 5 t3 (fun t83 w =>
  ld t83 (fun t84 w =>
  slL 6 t84 (some (Value.int IntKind.i64 1)) none none (fun t85 w =>
  cl P F.tree_writer_message [a0, t82, t85] (fun t86 w =>
  R (.returned (.tuple #[])) w) (fun ch w => R (.panicked ch) w) w) w) w) w) w) w)) (fun ch w => R (.panicked ch) w) w) w) w) w) w) w) w))
  (bI .eql .i64 t10 (Value.int IntKind.i64 8) (fun t88 w =>
  cnd t88
  (drw w (fun w =>
  fa 5 t3 (fun t90 w =>
  ld t90 (fun t91 w =>
  ia 6 t91 (Value.int IntKind.i64 0) (fun t92 w =>
  ldn 6 t92 (fun t93 w =>
  fa 5 t3 (fun t94 w =>
  ld t94 (fun t95 w =>
  ia 6 t95 (Value.int IntKind.i64 1) (fun t96 w =>
  fa 1 t96 (fun t97 w =>
  ld t97 (fun t98 w =>
  cl P F.tree_writer_to [a0, t93, t98] (fun t99 w =>
  fa 5 t3 (fun t100 w =>
  ld t100 (fun t101 w =>
  slL 6 t101 (some (Value.int IntKind.i64 1)) none none (fun t102 w =>
  lnL t102 (fun t103 w =>
  lp 1 [(Value.int IntKind.i64 0)] (fun r2 x104 w =>
  bI .lss .i64 x104 t103 (fun t105 w =>
  cnd t105
  (ia 6 t102 x104 (fun t107 w =>
  ldn 6 t107 (fun t108 w =>
  al [.int .i64 0, .string ⟨#[]⟩, .int .i64 0, .int .i64 0, .slice none 0 0, .slice none 0 0] 50 (fun t6 w =>
  st 6 t6 t108 (fun w =>
  jn 0 (fun w =>
  fa 1 t6 (fun t116 w =>
  ld t116 (fun t117 w =>
  fa 5 t6 (fun t118 w =>
  ld t118 (fun t119 w =>
  cl P F.tree_writer_message [a0, t117, t119] (fun t120 w =>
  bI .add .i64 x104 (Value.int IntKind.i64 1) (fun t121 w =>
  sm [(a0, a0), (t102, t102), (t103, t103)] [] [] (r2 [t121] w)) w) (fun ch w => R (.panicked ch) w) w) w) w) w) w) (fun k3 =>
  bI .gtr .i64 x104 (Value.int IntKind.i64 0) (fun t110 w =>
  cnd t110
  (nc a0 (fun t112 w =>
  fa 0 t112 (fun t113 w =>
  cl P F.strings_Builder_WriteByte [t113, (Value.int IntKind.u8 59)] (fun t114 w =>
  sm [(a0, a0), (t6, t6), (t102, t102), (t103, t103), (x104, x104)] [] [] (k3 w)) (fun ch w => R (.panicked ch) w) w) w) w)
  (sm [(a0, a0), (t6, t6), (t102, t102), (t103, t103), (x104, x104)] [] [] (k3 w))) w)) w) w) w) w)
  (R (.returned (.tuple #[])) w)) w) w) w) w) w) w) (fun ch w => R (.panicked ch) w) w) w) w) w) w) w) w) w) w) w))
  (bI .eql .i64 t10 (Value.int IntKind.i64 10) (fun t123 w =>
  cnd t123
  (nc a0 (fun t125 w =>
  fa 0 t125 (fun t126 w =>
  cl P F.strings_Builder_WriteByte [t126, (Value.int IntKind.u8 91)] (fun t127 w =>
  fa 4 t3 (fun t128 w =>
  ld t128 (fun t129 w =>
  fa 3 t3 (fun t130 w =>
  ld t130 (fun t131 w =>
  slL 1 t129 none (some t131) none (fun t132 w =>
  lnL t132 (fun t133 w =>
  lp 1 [(Value.int IntKind.i64 0)] (fun r4 x134 w =>
  bI .lss .i64 x134 t133 (fun t135 w =>
  cnd t135
  (ia 1 t132 x134 (fun t136 w =>
  ld t136 (fun t137 w =>
  nc a0 (fun t139 w =>
  fa 0 t139 (fun t140 w =>
  bS .add (Value.string { data := #[58] }) t137 (fun t142 w =>
  bS .add t142 (Value.string { data := #[32] }) (fun t143 w =>
  cl P F.strings_Builder_WriteString [t140, t143] (fun t144 w =>
  bI .add .i64 x134 (Value.int IntKind.i64 1) (fun t145 w =>
  sm [(a0, a0), (t3, t3), (t132, t132), (t133, t133)] [] [] (r4 [t145] w)) w) (fun ch w => R (.panicked ch) w) w) w) w) w) w) w) w)
  (jn 0 (fun w =>
  ldn 6 t3 (fun t154 w =>
  cl P F.tree_writer_body [a0, t154] (fun t155 w =>
  nc a0 (fun t157 w =>
  fa 0 t157 (fun t158 w =>
  cl P F.strings_Builder_WriteByte [t158, (Value.int IntKind.u8 93)] (fun t159 w =>
  R (.returned (.tuple #[])) w) (fun ch w => R (.panicked ch) w) w) w) w) (fun ch w => R (.panicked ch) w) w) w) (fun k5 =>
  fa 3 t3 (fun t146 w =>
  ld t146 (fun t147 w =>
  bI .gtr .i64 t147 (Value.int IntKind.i64 0) (fun t148 w =>
  cnd t148
  (nc a0 (fun t150 w =>
  fa 0 t150 (fun t151 w =>
  cl P F.strings_Builder_WriteString [t151, (Value.string { data := #[124, 32] })] (fun t152 w =>
  sm [(a0, a0), (t3, t3)] [] [] (k5 w)) (fun ch w => R (.panicked ch) w) w) w) w)
  (sm [(a0, a0), (t3, t3)] [] [] (k5 w))) w) w) w))) w) w) w) w) w) w) w) w) (fun ch w => R (.panicked ch) w) w) w) w)
  (bI .eql .i64 t10 (Value.int IntKind.i64 11) (fun t161 w =>
  cnd t161
  (nc a0 (fun t163 w =>
  fa 0 t163 (fun t164 w =>
  cl P F.strings_Builder_WriteByte [t164, (Value.int IntKind.u8 94)] (fun t165 w =>
  fa 5 t3 (fun t167 w =>
  ld t167 (fun t168 w =>
  ia 6 t168 (Value.int IntKind.i64 0) (fun t169 w =>
  ldn 6 t169 (fun t170 w =>
  cl P F.tree_writer_node [a0, t170] (fun t171 w =>
  R (.returned (.tuple #[])) w) (fun ch w => R (.panicked ch) w) w) w) w) w) w) (fun ch w => R (.panicked ch) w) w) w) w)
  (bI .eql .i64 t10 (Value.int IntKind.i64 12) (fun t173 w =>
  cnd t173
  (ldn 6 t3 (fun t175 w =>
  cl P F.tree_writer_pattern [a0, t175] (fun t176 w =>
  ldn 6 t3 (fun t178 w =>
  cl P F.tree_writer_body [a0, t178] (fun t179 w =>
  R (.returned (.tuple #[])) w) (fun ch w => R (.panicked ch) w) w) w) (fun ch w => R (.panicked ch) w) w) w)
  (drw w (fun w =>
  nc a0 (fun t12 w =>
  fa 0 t12 (fun t13 w =>
  fa 1 t3 (fun t14 w =>
  ld t14 (fun t15 w =>
  cl P F.strings_Builder_WriteString [t13, t15] (fun t16 w =>
  R (.returned (.tuple #[])) w) (fun ch w => R (.panicked ch) w) w) w) w) w) w))) w)) w)) w)) w)) w)) w)) w)) w)) w) w) w) w
theorem e_tree_writer_node (R : Ending → World → Prop) (a0 a1 : Value) (w : World) : vcFn P tab 4000 Tryz.f105.ntmps (Tryz.f105.body.getD .skip) Tryz.f105.results.toList [a0, a1] R w = d_tree_writer_node R a0 a1 w := by kernel_rfl
theorem t_tree_writer_node (R : Ending → World → Prop) (a0 a1 : Value) (w : World) (h : d_tree_writer_node R a0 a1 w) : Tr P F.tree_writer_node [a0, a1] w R :=
  fn_ok (fn := Tryz.f105) (c := Tryz.f105.body.getD .skip) (fuel := 4000) mixed tab_ok Tryz.func105 (by kernel_rfl) (by kernel_rfl) (Nat.le_of_ble_eq_true (by kernel_rfl)) (Eq.mpr (e_tree_writer_node R a0 a1 w) h)
/-- (*strings.Builder).String -/
def d_strings_Builder_String (R : Ending → World → Prop) (a0 : Value) (w : World) : Prop :=
  drw w (fun w =>
  nc a0 (fun t4 w =>
  fa 1 t4 (fun t5 w =>
  ld t5 (fun t6 w =>
  nc a0 (fun t9 w =>
  fa 1 t9 (fun t10 w =>
  ld t10 (fun t11 w =>
  lnL t11 (fun t12 w =>
  rx P (Builtin.unsafeSliceData_ #[176] 224 #[t6]) (fun t7 w =>
  rk false t10 t11
  (rx P (Builtin.unsafeString_ #[224, 3] 9 #[t7, t12]) (fun t13 w =>
  R (.returned t13) w) w) w) w) w) w) w) w) w) w) w)
theorem e_strings_Builder_String (R : Ending → World → Prop) (a0 : Value) (w : World) : vcFn P tab 4000 Tryz.f106.ntmps (Tryz.f106.body.getD .skip) Tryz.f106.results.toList [a0] R w = d_strings_Builder_String R a0 w := by kernel_rfl
theorem t_strings_Builder_String (R : Ending → World → Prop) (a0 : Value) (w : World) (h : d_strings_Builder_String R a0 w) : Tr P F.strings_Builder_String [a0] w R :=
  fn_ok (fn := Tryz.f106) (c := Tryz.f106.body.getD .skip) (fuel := 4000) mixed tab_ok Tryz.func106 (by kernel_rfl) (by kernel_rfl) (Nat.le_of_ble_eq_true (by kernel_rfl)) (Eq.mpr (e_strings_Builder_String R a0 w) h)
end Go.Vx
set_option maxRecDepth 100000
set_option linter.unusedVariables false
namespace Go.Vx
open Go Go.Proofs
/-- (*lapidary/lex.reader).name$1 -/
def d_lex_reader_name_1 (R : Ending → World → Prop) (a0 : Value) (w : World) : Prop :=
  cl P F.lex_letter [a0] (fun t4 w =>
  cnd t4
  (R (.returned (.bool true)) w)
  (cl P F.lex_digit [a0] (fun t7 w =>
  cnd t7
  (R (.returned (.bool true)) w)
  (bI .eql .u8 a0 (Value.int IntKind.u8 95) (fun t11 w =>
  R (.returned t11) w) w)) (fun ch w => R (.panicked ch) w) w)) (fun ch w => R (.panicked ch) w) w
theorem e_lex_reader_name_1 (R : Ending → World → Prop) (a0 : Value) (w : World) : vcFn P tab 4000 Tryz.f128.ntmps (Tryz.f128.body.getD .skip) Tryz.f128.results.toList [a0] R w = d_lex_reader_name_1 R a0 w := by kernel_rfl
theorem t_lex_reader_name_1 (R : Ending → World → Prop) (a0 : Value) (w : World) (h : d_lex_reader_name_1 R a0 w) : Tr P F.lex_reader_name_1 [a0] w R :=
  fn_ok (fn := Tryz.f128) (c := Tryz.f128.body.getD .skip) (fuel := 4000) mixed tab_ok Tryz.func128 (by kernel_rfl) (by kernel_rfl) (Nat.le_of_ble_eq_true (by kernel_rfl)) (Eq.mpr (e_lex_reader_name_1 R a0 w) h)
/-- strings.CutPrefix -/
def d_strings_CutPrefix (R : Ending → World → Prop) (a0 a1 : Value) (w : World) : Prop :=
  cl P F.internal_stringslite_CutPrefix [a0, a1] (fun t8 w =>
  ex t8 0 (fun t9 w =>
  ex t8 1 (fun t10 w =>
  R (.returned (.tuple #[t9, t10])) w) w) w) (fun ch w => R (.panicked ch) w) w
theorem e_strings_CutPrefix (R : Ending → World → Prop) (a0 a1 : Value) (w : World) : vcFn P tab 4000 Tryz.f129.ntmps (Tryz.f129.body.getD .skip) Tryz.f129.results.toList [a0, a1] R w = d_strings_CutPrefix R a0 a1 w := by kernel_rfl
theorem t_strings_CutPrefix (R : Ending → World → Prop) (a0 a1 : Value) (w : World) (h : d_strings_CutPrefix R a0 a1 w) : Tr P F.strings_CutPrefix [a0, a1] w R :=
  fn_ok (fn := Tryz.f129) (c := Tryz.f129.body.getD .skip) (fuel := 4000) mixed tab_ok Tryz.func129 (by kernel_rfl) (by kernel_rfl) (Nat.le_of_ble_eq_true (by kernel_rfl)) (Eq.mpr (e_strings_CutPrefix R a0 a1 w) h)
/-- lapidary/whole.Read$1 -/
def d_whole_Read_1 (R : Ending → World → Prop) (a0 : Value) (w : World) : Prop :=
  bI .lss .i32 a0 (Value.int IntKind.i32 48) (fun t4 w =>
  cnd t4
  (R (.returned (.bool true)) w)
  (bI .gtr .i32 a0 (Value.int IntKind.i32 57) (fun t7 w =>
  R (.returned t7) w) w)) w
theorem e_whole_Read_1 (R : Ending → World → Prop) (a0 : Value) (w : World) : vcFn P tab 4000 Tryz.f130.ntmps (Tryz.f130.body.getD .skip) Tryz.f130.results.toList [a0] R w = d_whole_Read_1 R a0 w := by kernel_rfl
theorem t_whole_Read_1 (R : Ending → World → Prop) (a0 : Value) (w : World) (h : d_whole_Read_1 R a0 w) : Tr P F.whole_Read_1 [a0] w R :=
  fn_ok (fn := Tryz.f130) (c := Tryz.f130.body.getD .skip) (fuel := 4000) mixed tab_ok Tryz.func130 (by kernel_rfl) (by kernel_rfl) (Nat.le_of_ble_eq_true (by kernel_rfl)) (Eq.mpr (e_whole_Read_1 R a0 w) h)
/-- strings.IndexFunc -/
def d_strings_IndexFunc (R : Ending → World → Prop) (a0 a1 : Value) (w : World) : Prop :=
  cl P F.strings_indexFunc [a0, a1, (.bool true)] (fun t7 w =>
  R (.returned t7) w) (fun ch w => R (.panicked ch) w) w
theorem e_strings_IndexFunc (R : Ending → World → Prop) (a0 a1 : Value) (w : World) : vcFn P tab 4000 Tryz.f131.ntmps (Tryz.f131.body.getD .skip) Tryz.f131.results.toList [a0, a1] R w = d_strings_IndexFunc R a0 a1 w := by kernel_rfl
theorem t_strings_IndexFunc (R : Ending → World → Prop) (a0 a1 : Value) (w : World) (h : d_strings_IndexFunc R a0 a1 w) : Tr P F.strings_IndexFunc [a0, a1] w R :=
  fn_ok (fn := Tryz.f131) (c := Tryz.f131.body.getD .skip) (fuel := 4000) mixed tab_ok Tryz.func131 (by kernel_rfl) (by kernel_rfl) (Nat.le_of_ble_eq_true (by kernel_rfl)) (Eq.mpr (e_strings_IndexFunc R a0 a1 w) h)
/-- lapidary/whole.plus -/
def d_whole_plus (R : Ending → World → Prop) (a0 a1 : Value) (w : World) : Prop :=
  jn 2 (fun x0 x1 w =>
  lnL x0 (fun t16 w =>
  bI .add .i64 t16 (Value.int IntKind.i64 1) (fun t17 w =>
  mk 211 4 [.int .u32 0] t17 t17 (fun t18 w =>
  lnL x0 (fun t20 w =>
  lp 2 [(Value.int IntKind.u64 0), (Value.int IntKind.i64 0)] (fun r2 x6 x21 w =>
  bI .lss .i64 x21 t20 (fun t22 w =>
  cnd t22
  (ia 1 x0 x21 (fun t27 w =>
  ld t27 (fun t28 w =>
  cI .u64 t28 (fun t29 w =>
  bI .add .u64 x6 t29 (fun t30 w =>
  jn 1 (fun x6 w =>
  cI .u32 x6 (fun t45 w =>
  ia 1 t18 x21 (fun t46 w =>
  st 1 t46 t45 (fun w =>
  bH .shr .u64 x6 (Value.int IntKind.u64 32) (fun t48 w =>
  bI .add .i64 x21 (Value.int IntKind.i64 1) (fun t49 w =>
  sm [(x0, x0), (x1, x1), ((Value.slice none 0 0), (Value.slice none 0 0)), (t18, t18), (t20, t20)] [] [] (r2 [t48, t49] w)) w) w) w) w) w) (fun k3 =>
  lnL x1 (fun t33 w =>
  bI .lss .i64 x21 t33 (fun t34 w =>
  cnd t34
  (ia 1 x1 x21 (fun t38 w =>
  ld t38 (fun t39 w =>
  cI .u64 t39 (fun t40 w =>
  bI .add .u64 t30 t40 (fun t41 w =>
  sm [(x0, x0), (x1, x1), ((Value.slice none 0 0), (Value.slice none 0 0)), (t18, t18), (x21, x21), (t20, t20), (x21, x21)] [] [] (k3 t41 w)) w) w) w) w)
  (sm [(x0, x0), (x1, x1), ((Value.slice none 0 0), (Value.slice none 0 0)), (t18, t18), (x21, x21), (t20, t20), (x21, x21)] [] [] (k3 t30 w))) w) w)) w) w) w) w)
  (lnL x0 (fun t52 w =>
  cI .u32 x6 (fun t54 w =>
  ia 1 t18 t52 (fun t55 w =>
  st 1 t55 t54 (fun w =>
  cl P F.whole_words_trim [t18] (fun t57 w =>
  R (.returned t57) w) (fun ch w => R (.panicked ch) w) w) w) w) w) w)) w) w) w) w) w) w) (fun k1 =>
  lnL a0 (fun t9 w =>
  lnL a1 (fun t11 w =>
  bI .lss .i64 t9 t11 (fun t12 w =>
  cnd t12
  (sm [((Value.slice none 0 0), (Value.slice none 0 0))] [] [] (k1 a1 a0 w))
  (sm [((Value.slice none 0 0), (Value.slice none 0 0))] [] [] (k1 a0 a1 w))) w) w) w)
theorem e_whole_plus (R : Ending → World → Prop) (a0 a1 : Value) (w : World) : vcFn P tab 4000 Tryz.f132.ntmps (Tryz.f132.body.getD .skip) Tryz.f132.results.toList [a0, a1] R w = d_whole_plus R a0 a1 w := by kernel_rfl
theorem t_whole_plus (R : Ending → World → Prop) (a0 a1 : Value) (w : World) (h : d_whole_plus R a0 a1 w) : Tr P F.whole_plus [a0, a1] w R :=
  fn_ok (fn := Tryz.f132) (c := Tryz.f132.body.getD .skip) (fuel := 4000) mixed tab_ok Tryz.func132 (by kernel_rfl) (by kernel_rfl) (Nat.le_of_ble_eq_true (by kernel_rfl)) (Eq.mpr (e_whole_plus R a0 a1 w) h)
/-- lapidary/whole.times -/
def d_whole_times (R : Ending → World → Prop) (a0 a1 : Value) (w : World) : Prop :=
  lnL a0 (fun t12 w =>
  lnL a1 (fun t14 w =>
  bI .add .i64 t12 t14 (fun t15 w =>
  mk 211 4 [.int .u32 0] t15 t15 (fun t16 w =>
  lnL a0 (fun t18 w =>
  lp 1 [(Value.int IntKind.i64 0)] (fun r1 x19 w =>
  bI .lss .i64 x19 t18 (fun t20 w =>
  cnd t20
  (ia 1 a0 x19 (fun t22 w =>
  ld t22 (fun t23 w =>
  lnL a1 (fun t25 w =>
  lp 2 [(Value.int IntKind.u64 0), (Value.int IntKind.i64 0)] (fun r2 x8 x26 w =>
  bI .lss .i64 x26 t25 (fun t27 w =>
  cnd t27
  (ia 1 a1 x26 (fun t29 w =>
  ld t29 (fun t30 w =>
  cI .u64 t23 (fun t33 w =>
  cI .u64 t30 (fun t35 w =>
  bI .mul .u64 t33 t35 (fun t36 w =>
  bI .add .i64 x19 x26 (fun t40 w =>
  ia 1 t16 t40 (fun t41 w =>
  ld t41 (fun t42 w =>
  cI .u64 t42 (fun t43 w =>
  bI .add .u64 t36 t43 (fun t44 w =>
  bI .add .u64 x8 t44 (fun t45 w =>
  bI .add .i64 x19 x26 (fun t49 w =>
  cI .u32 t45 (fun t51 w =>
  ia 1 t16 t49 (fun t52 w =>
  st 1 t52 t51 (fun w =>
  bH .shr .u64 t45 (Value.int IntKind.u64 32) (fun t54 w =>
  bI .add .i64 x26 (Value.int IntKind.i64 1) (fun t55 w =>
  sm [(a1, a1), ((Value.slice none 0 0), (Value.slice none 0 0)), (t16, t16), (x19, x19), (t23, t23), (a0, a0), (t18, t18), (x19, x19), (a1, a1), (t25, t25)] [] [] (r2 [t54, t55] w)) w) w) w) w) w) w) w) w) w) w) w) w) w) w) w) w) w)
  (lnL a1 (fun t59 w =>
  bI .add .i64 x19 t59 (fun t60 w =>
  cI .u32 x8 (fun t62 w =>
  ia 1 t16 t60 (fun t63 w =>
  st 1 t63 t62 (fun w =>
  bI .add .i64 x19 (Value.int IntKind.i64 1) (fun t64 w =>
  sm [(a1, a1), ((Value.slice none 0 0), (Value.slice none 0 0)), (t16, t16), (a0, a0), (t18, t18)] [] [] (r1 [t64] w)) w) w) w) w) w) w)) w) w) w) w) w)
  (cl P F.whole_words_trim [t16] (fun t66 w =>
  R (.returned t66) w) (fun ch w => R (.panicked ch) w) w)) w) w) w) w) w) w) w
theorem e_whole_times (R : Ending → World → Prop) (a0 a1 : Value) (w : World) : vcFn P tab 4000 Tryz.f133.ntmps (Tryz.f133.body.getD .skip) Tryz.f133.results.toList [a0, a1] R w = d_whole_times R a0 a1 w := by kernel_rfl
theorem t_whole_times (R : Ending → World → Prop) (a0 a1 : Value) (w : World) (h : d_whole_times R a0 a1 w) : Tr P F.whole_times [a0, a1] w R :=
  fn_ok (fn := Tryz.f133) (c := Tryz.f133.body.getD .skip) (fuel := 4000) mixed tab_ok Tryz.func133 (by kernel_rfl) (by kernel_rfl) (Nat.le_of_ble_eq_true (by kernel_rfl)) (Eq.mpr (e_whole_times R a0 a1 w) h)
/-- (lapidary/whole.words).trim -/
def d_whole_words_trim (R : Ending → World → Prop) (a0 : Value) (w : World) : Prop :=
  lp 1 [a0] (fun r1 x0 w =>
  jn 7 (fun x7 x8 x9 x10 x11 x12 x13 w =>
  lnL x0 (fun t17 w =>
  bI .sub .i64 t17 (Value.int IntKind.i64 1) (fun t18 w =>
  slL 1 x0 none (some t18) none (fun t19 w =>
  sm [((Value.slice none 0 0), (Value.slice none 0 0))] [] [] (r1 [t19] w)) w) w) w) (fun k2 =>
  lnL x0 (fun t4 w =>
  bI .gtr .i64 t4 (Value.int IntKind.i64 0) (fun t5 w =>
  cnd t5
  (lnL x0 (fun t9 w =>
  bI .sub .i64 t9 (Value.int IntKind.i64 1) (fun t10 w =>
  ia 1 x0 t10 (fun t11 w =>
  ld t11 (fun t12 w =>
  bI .eql .u32 t12 (Value.int IntKind.u32 0) (fun t13 w =>
  cnd t13
  (sm [(x0, x0), ((Value.slice none 0 0), (Value.slice none 0 0))] [] [] (k2 x0 x0 t9 t10 t11 t12 t13 w))
  (R (.returned x0) w)) w) w) w) w) w)
  (R (.returned x0) w)) w) w)) w
theorem e_whole_words_trim (R : Ending → World → Prop) (a0 : Value) (w : World) : vcFn P tab 4000 Tryz.f134.ntmps (Tryz.f134.body.getD .skip) Tryz.f134.results.toList [a0] R w = d_whole_words_trim R a0 w := by kernel_rfl
theorem t_whole_words_trim (R : Ending → World → Prop) (a0 : Value) (w : World) (h : d_whole_words_trim R a0 w) : Tr P F.whole_words_trim [a0] w R :=
  fn_ok (fn := Tryz.f134) (c := Tryz.f134.body.getD .skip) (fuel := 4000) mixed tab_ok Tryz.func134 (by kernel_rfl) (by kernel_rfl) (Nat.le_of_ble_eq_true (by kernel_rfl)) (Eq.mpr (e_whole_words_trim R a0 w) h)
/-- lapidary/whole.fits -/
def d_whole_fits (R : Ending → World → Prop) (a0 a1 : Value) (w : World) : Prop :=
  al [.bool false, .slice none 0 0] 178 (fun t4 w =>
  cl P F.whole_made [a0, a1] (fun t9 w =>
  al [.bool false, .slice none 0 0] 178 (fun t6 w =>
  st 2 t6 t9 (fun w =>
  fa 1 t6 (fun t10 w =>
  ld t10 (fun t11 w =>
  lnL t11 (fun t12 w =>
  bI .gtr .i64 t12 (Value.int IntKind.i64 128) (fun t13 w =>
  cnd t13
  (bd [.bool false, .slice none 0 0] [] (fun t14 w =>
  st 2 t4 t14 (fun w =>
  ldn 2 t4 (fun r0 w =>
  R (.returned (.tuple #[r0, (Value.int IntKind.i64 24)])) w) w) w) w)
  (ldn 2 t6 (fun t15 w =>
  st 2 t4 t15 (fun w =>
  ldn 2 t4 (fun r0 w =>
  R (.returned (.tuple #[r0, (Value.int IntKind.i64 0)])) w) w) w) w)) w) w) w) w) w) w) (fun ch w => R (.panicked ch) w) w) w
theorem e_whole_fits (R : Ending → World → Prop) (a0 a1 : Value) (w : World) : vcFn P tab 4000 Tryz.f135.ntmps (Tryz.f135.body.getD .skip) Tryz.f135.results.toList [a0, a1] R w = d_whole_fits R a0 a1 w := by kernel_rfl
theorem t_whole_fits (R : Ending → World → Prop) (a0 a1 : Value) (w : World) (h : d_whole_fits R a0 a1 w) : Tr P F.whole_fits [a0, a1] w R :=
  fn_ok (fn := Tryz.f135) (c := Tryz.f135.body.getD .skip) (fuel := 4000) mixed tab_ok Tryz.func135 (by kernel_rfl) (by kernel_rfl) (Nat.le_of_ble_eq_true (by kernel_rfl)) (Eq.mpr (e_whole_fits R a0 a1 w) h)
/-- (*strings.Builder).Len -/
def d_strings_Builder_Len (R : Ending → World → Prop) (a0 : Value) (w : World) : Prop :=
  nc a0 (fun t4 w =>
  fa 1 t4 (fun t5 w =>
  ld t5 (fun t6 w =>
  lnL t6 (fun t7 w =>
  R (.returned t7) w) w) w) w) w
theorem e_strings_Builder_Len (R : Ending → World → Prop) (a0 : Value) (w : World) : vcFn P tab 4000 Tryz.f136.ntmps (Tryz.f136.body.getD .skip) Tryz.f136.results.toList [a0] R w = d_strings_Builder_Len R a0 w := by kernel_rfl
theorem t_strings_Builder_Len (R : Ending → World → Prop) (a0 : Value) (w : World) (h : d_strings_Builder_Len R a0 w) : Tr P F.strings_Builder_Len [a0] w R :=
  fn_ok (fn := Tryz.f136) (c := Tryz.f136.body.getD .skip) (fuel := 4000) mixed tab_ok Tryz.func136 (by kernel_rfl) (by kernel_rfl) (Nat.le_of_ble_eq_true (by kernel_rfl)) (Eq.mpr (e_strings_Builder_Len R a0 w) h)
/-- (*strings.Builder).WriteByte -/
def d_strings_Builder_WriteByte (R : Ending → World → Prop) (a0 a1 : Value) (w : World) : Prop :=
  cl P F.strings_Builder_copyCheck [a0] (fun t6 w =>
  nc a0 (fun t9 w =>
  fa 1 t9 (fun t10 w =>
  ld t10 (fun t11 w =>
  bs 5 [.int .u8 0] 1 [(0, 1, a1)] (fun t13 w =>
  ap 5 1 1 [.int .u8 0] t11 t13 (fun t14 w =>
  nc a0 (fun t15 w =>
  fa 1 t15 (fun t16 w =>
  st 1 t16 t14 (fun w =>
  R (.returned Value.nilIface) w) w) w) w) w) w) w) w) w) (fun ch w => R (.panicked ch) w) w
theorem e_strings_Builder_WriteByte (R : Ending → World → Prop) (a0 a1 : Value) (w : World) : vcFn P tab 4000 Tryz.f137.ntmps (Tryz.f137.body.getD .skip) Tryz.f137.results.toList [a0, a1] R w = d_strings_Builder_WriteByte R a0 a1 w := by kernel_rfl
theorem t_strings_Builder_WriteByte (R : Ending → World → Prop) (a0 a1 : Value) (w : World) (h : d_strings_Builder_WriteByte R a0 a1 w) : Tr P F.strings_Builder_WriteByte [a0, a1] w R :=
  fn_ok (fn := Tryz.f137) (c := Tryz.f137.body.getD .skip) (fuel := 4000) mixed tab_ok Tryz.func137 (by kernel_rfl) (by kernel_rfl) (Nat.le_of_ble_eq_true (by kernel_rfl)) (Eq.mpr (e_strings_Builder_WriteByte R a0 a1 w) h)
/-- (*lapidary/lex.reader).sign$1 -/
def d_lex_reader_sign_1 (R : Ending → World → Prop) (a0 : Value) (w : World) : Prop :=
  cl P F.lex_place [a0, (Value.string { data := #[43, 45, 42, 47, 92, 60, 62, 61, 126, 44, 64, 37, 38, 63] })] (fun t4 w =>
  bI .geq .i64 t4 (Value.int IntKind.i64 0) (fun t5 w =>
  R (.returned t5) w) w) (fun ch w => R (.panicked ch) w) w
theorem e_lex_reader_sign_1 (R : Ending → World → Prop) (a0 : Value) (w : World) : vcFn P tab 4000 Tryz.f138.ntmps (Tryz.f138.body.getD .skip) Tryz.f138.results.toList [a0] R w = d_lex_reader_sign_1 R a0 w := by kernel_rfl
theorem t_lex_reader_sign_1 (R : Ending → World → Prop) (a0 : Value) (w : World) (h : d_lex_reader_sign_1 R a0 w) : Tr P F.lex_reader_sign_1 [a0] w R :=
  fn_ok (fn := Tryz.f138) (c := Tryz.f138.body.getD .skip) (fuel := 4000) mixed tab_ok Tryz.func138 (by kernel_rfl) (by kernel_rfl) (Nat.le_of_ble_eq_true (by kernel_rfl)) (Eq.mpr (e_lex_reader_sign_1 R a0 w) h)
/-- (*lapidary/tree.parser).within -/
def d_tree_parser_within (R : Ending → World → Prop) (a0 a1 : Value) (w : World) : Prop :=
  jn 0 (fun w =>
  nc a0 (fun t12 w =>
  fa 1 t12 (fun t13 w =>
  ld t13 (fun t14 w =>
  bI .add .i64 t14 (Value.int IntKind.i64 1) (fun t15 w =>
  nc a0 (fun t16 w =>
  fa 1 t16 (fun t17 w =>
  st 1 t17 t15 (fun w =>
  cl P F.tree_parser_take [a0] (fun t19 w =>
  clv P a1 [] (fun t21 w =>
  nc a0 (fun t23 w =>
  fa 1 t23 (fun t24 w =>
  ld t24 (fun t25 w =>
  bI .sub .i64 t25 (Value.int IntKind.i64 1) (fun t26 w =>
  nc a0 (fun t27 w =>
  fa 1 t27 (fun t28 w =>
  st 1 t28 t26 (fun w =>
  R (.returned (.tuple #[])) w) w) w) w) w) w) w) w) (fun ch w => R (.panicked ch) w) w) (fun ch w => R (.panicked ch) w) w) w) w) w) w) w) w) w) (fun k1 =>
  nc a0 (fun t5 w =>
  fa 1 t5 (fun t6 w =>
  ld t6 (fun t7 w =>
  bI .eql .i64 t7 (Value.int IntKind.i64 40) (fun t8 w =>
  cnd t8
  (cl P F.tree_parser_bad [a0, (Value.int IntKind.i64 3)] (fun t10 w =>
  sm [(a0, a0), (a1, a1)] [] [] (k1 w)) (fun ch w => R (.panicked ch) w) w)
  (sm [(a0, a0), (a1, a1)] [] [] (k1 w))) w) w) w) w)
theorem e_tree_parser_within (R : Ending → World → Prop) (a0 a1 : Value) (w : World) : vcFn P tab 4000 Tryz.f139.ntmps (Tryz.f139.body.getD .skip) Tryz.f139.results.toList [a0, a1] R w = d_tree_parser_within R a0 a1 w := by kernel_rfl
theorem t_tree_parser_within (R : Ending → World → Prop) (a0 a1 : Value) (w : World) (h : d_tree_parser_within R a0 a1 w) : Tr P F.tree_parser_within [a0, a1] w R :=
  fn_ok (fn := Tryz.f139) (c := Tryz.f139.body.getD .skip) (fuel := 4000) mixed tab_ok Tryz.func139 (by kernel_rfl) (by kernel_rfl) (Nat.le_of_ble_eq_true (by kernel_rfl)) (Eq.mpr (e_tree_parser_within R a0 a1 w) h)
/-- (*lapidary/tree.parser).expression$1 -/
def d_tree_parser_expression_1 (R : Ending → World → Prop) (a0 a1 : Value) (w : World) : Prop :=
  ld a0 (fun t2 w =>
  cl P F.tree_parser_expression [t2] (fun t3 w =>
  bs 50 [.int .i64 0, .string ⟨#[]⟩, .int .i64 0, .int .i64 0, .slice none 0 0, .slice none 0 0] 1 [(0, 6, t3)] (fun t4 w =>
  fa 5 a1 (fun t5 w =>
  st 1 t5 t4 (fun w =>
  R (.returned (.tuple #[])) w) w) w) w) (fun ch w => R (.panicked ch) w) w) w
theorem e_tree_parser_expression_1 (R : Ending → World → Prop) (a0 a1 : Value) (w : World) : vcFn P tab 4000 Tryz.f140.ntmps (Tryz.f140.body.getD .skip) Tryz.f140.results.toList [a0, a1] R w = d_tree_parser_expression_1 R a0 a1 w := by kernel_rfl
theorem t_tree_parser_expression_1 (R : Ending → World → Prop) (a0 a1 : Value) (w : World) (h : d_tree_parser_expression_1 R a0 a1 w) : Tr P F.tree_parser_expression_1 [a0, a1] w R :=
  fn_ok (fn := Tryz.f140) (c := Tryz.f140.body.getD .skip) (fuel := 4000) mixed tab_ok Tryz.func140 (by kernel_rfl) (by kernel_rfl) (Nat.le_of_ble_eq_true (by kernel_rfl)) (Eq.mpr (e_tree_parser_expression_1 R a0 a1 w) h)
/-- (*lapidary/tree.parser).cascade -/
def d_tree_parser_cascade (R : Ending → World → Prop) (a0 : Value) (w : World) : Prop :=
  al [.int .i64 0, .string ⟨#[]⟩, .int .i64 0, .int .i64 0, .slice none 0 0, .slice none 0 0] 50 (fun t2 w =>
  cl P F.tree_parser_keyed [a0] (fun t9 w =>
  ex t9 0 (fun t10 w =>
  ex t9 1 (fun t11 w =>
  al [.int .i64 0, .string ⟨#[]⟩, .int .i64 0, .int .i64 0, .slice none 0 0, .slice none 0 0] 50 (fun t3 w =>
  st 6 t3 t10 (fun w =>
  cl P F.tree_parser_kind [a0] (fun t13 w =>
  bI .neq .i64 t13 (Value.int IntKind.i64 15) (fun t14 w =>
  cnd t14
  (ldn 6 t3 (fun t15 w =>
  st 6 t2 t15 (fun w =>
  ldn 6 t2 (fun r0 w =>
  R (.returned r0) w) w) w) w)
  (jn 0 (fun w =>
  drw w (fun w =>
  fa 1 t3 (fun t25 w =>
  ld t25 (fun t26 w =>
  fa 2 t3 (fun t27 w =>
  ld t27 (fun t28 w =>
  fa 5 t3 (fun t29 w =>
  ld t29 (fun t30 w =>
  slL 6 t30 (some (Value.int IntKind.i64 1)) none none (fun t31 w =>
  bd [.int .i64 0, .string ⟨#[]⟩, .int .i64 0, .int .i64 0, .slice none 0 0, .slice none 0 0] [(0, 1, (Value.int IntKind.i64 9)), (1, 1, t26), (2, 1, t28), (5, 1, t31)] (fun t32 w =>
  al [.int .i64 0, .string ⟨#[]⟩, .int .i64 0, .int .i64 0, .slice none 0 0, .slice none 0 0] 50 (fun t5 w =>
  rk false t29 t30
  (rk false t27 t28
  (rk false t25 t26
  (st 6 t5 t32 (fun w =>
  drw w (fun w =>
  (fa 2 t3 (fun t33 w =>
  ld t33 (fun t34 w =>
  fa 5 t3 (fun t35 w =>
  ld t35 (fun t36 w =>
  ia 6 t36 (Value.int IntKind.i64 0) (fun t37 w =>
  ldn 6 t37 (fun t38 w =>
  ldn 6 t5 (fun t39 w =>
  bs 50 [.int .i64 0, .string ⟨#[]⟩, .int .i64 0, .int .i64 0, .slice none 0 0, .slice none 0 0] 2 [(0, 6, t38), (6, 6, t39)] (fun t40 w =>
  rk false t33 t34
  (bd [.int .i64 0, .string ⟨#[]⟩, .int .i64 0, .int .i64 0, .slice none 0 0, .slice none 0 0] [(0, 1, (Value.int IntKind.i64 8)), (2, 1, t34), (5, 1, t40)] (fun t41 w =>
  al [.int .i64 0, .string ⟨#[]⟩, .int .i64 0, .int .i64 0, .slice none 0 0, .slice none 0 0] 50 (fun t6 w =>
  rk false t33 t34
  (st 6 t6 t41 (fun w =>
  lp 0 [] (fun r2 w =>
  cl P F.tree_parser_kind [a0] (fun t43 w =>
  bI .eql .i64 t43 (Value.int IntKind.i64 15) (fun t44 w =>
  cnd t44
  (cl P F.tree_parser_take [a0] (fun t46 w =>
  drw w (fun w =>
  fa 5 t6 (fun t47 w =>
  ld t47 (fun t48 w =>
  cl P F.tree_parser_message [a0] (fun t50 w =>
  rk false t47 t48
  (bs 50 [.int .i64 0, .string ⟨#[]⟩, .int .i64 0, .int .i64 0, .slice none 0 0, .slice none 0 0] 1 [(0, 6, t50)] (fun t51 w =>
  rk false t47 t48
  (ap 50 6 88 [.int .i64 0, .string ⟨#[]⟩, .int .i64 0, .int .i64 0, .slice none 0 0, .slice none 0 0] t48 t51 (fun t52 w =>
  fa 5 t6 (fun t53 w =>
  st 1 t53 t52 (fun w =>
  sm [(a0, a0), (t2, t2), (t6, t6)] [] [] (r2 [] w)) w) w) w) w) w) w) (fun ch w => R (.panicked ch) w) w) w) w)) (fun ch w => R (.panicked ch) w) w)
  (ldn 6 t6 (fun t54 w =>
  st 6 t2 t54 (fun w =>
  ldn 6 t2 (fun r0 w =>
  R (.returned r0) w) w) w) w)) w) (fun ch w => R (.panicked ch) w) w) w) w) w) w) w) w) w) w) w) w) w) w) w) w) ∧
  (fa 2 t3 (fun t33 w =>
  ld t33 (fun t34 w =>
  fa 5 t3 (fun t35 w =>
  ld t35 (fun t36 w =>
  ia 6 t36 (Value.int IntKind.i64 0) (fun t37 w =>
  ldn 6 t37 (fun t38 w =>
  ldn 6 t5 (fun t39 w =>
  al [.int .i64 0, .string ⟨#[]⟩, .int .i64 0, .int .i64 0, .slice none 0 0, .slice none 0 0] 50 (fun t6 w =>
  rk true t5 t39
  (rk true t37 t38
  (rk false t35 t36
  (rk false t33 t34
  (bs 50 [.int .i64 0, .string ⟨#[]⟩, .int .i64 0, .int .i64 0, .slice none 0 0, .slice none 0 0] 2 [(0, 6, t38), (6, 6, t39)] (fun t40 w =>
  rk false t33 t34
  (bd [.int .i64 0, .string ⟨#[]⟩, .int .i64 0, .int .i64 0, .slice none 0 0, .slice none 0 0] [(0, 1, (Value.int IntKind.i64 8)), (2, 1, t34), (5, 1, t40)] (fun t41 w =>
  st 6 t6 t41 (fun w =>
  lp 0 [] (fun r3 w =>
  cl P F.tree_parser_kind [a0] (fun t43 w =>
  bI .eql .i64 t43 (Value.int IntKind.i64 15) (fun t44 w =>
  cnd t44
  (cl P F.tree_parser_take [a0] (fun t46 w =>
  drw w (fun w =>
  fa 5 t6 (fun t47 w =>
  ld t47 (fun t48 w =>
  cl P F.tree_parser_message [a0] (fun t50 w =>
  rk false t47 t48
  (bs 50 [.int .i64 0, .string ⟨#[]⟩, .int .i64 0, .int .i64 0, .slice none 0 0, .slice none 0 0] 1 [(0, 6, t50)] (fun t51 w =>
  rk false t47 t48
  (ap 50 6 88 [.int .i64 0, .string ⟨#[]⟩, .int .i64 0, .int .i64 0, .slice none 0 0, .slice none 0 0] t48 t51 (fun t52 w =>
  fa 5 t6 (fun t53 w =>
  st 1 t53 t52 (fun w =>
  sm [(a0, a0), (t2, t2), (t6, t6)] [] [] (r3 [] w)) w) w) w) w) w) w) (fun ch w => R (.panicked ch) w) w) w) w)) (fun ch w => R (.panicked ch) w) w)
  (ldn 6 t6 (fun t54 w =>
  st 6 t2 t54 (fun w =>
  ldn 6 t2 (fun r0 w =>
  R (.returned r0) w) w) w) w)) w) (fun ch w => R (.panicked ch) w) w) w) w) w) w) w) w) w) w) w) w) w) w) w) w) w) w) w))) w) w) w) w) w) w) w) w) w) w) w) w) w)) (fun k1 =>
  fa 0 t3 (fun t16 w =>
  ld t16 (fun t17 w =>
  bI .neq .i64 t17 (Value.int IntKind.i64 7) (fun t18 w =>
  cnd t18
  (cl P F.tree_parser_bad [a0, (Value.int IntKind.i64 20)] (fun t24 w =>
  sm [(a0, a0), (t2, t2), (t3, t3)] [] [] (k1 w)) (fun ch w => R (.panicked ch) w) w)
  (uN t11 (fun t21 w =>
  cnd t21
  (cl P F.tree_parser_bad [a0, (Value.int IntKind.i64 20)] (fun t24 w =>
  sm [(a0, a0), (t2, t2), (t3, t3)] [] [] (k1 w)) (fun ch w => R (.panicked ch) w) w)
  (sm [(a0, a0), (t2, t2), (t3, t3)] [] [] (k1 w))) w)) w) w) w))) w) (fun ch w => R (.panicked ch) w) w) w) w) w) w) (fun ch w => R (.panicked ch) w) w) w
theorem e_tree_parser_cascade (R : Ending → World → Prop) (a0 : Value) (w : World) : vcFn P tab 4000 Tryz.f141.ntmps (Tryz.f141.body.getD .skip) Tryz.f141.results.toList [a0] R w = d_tree_parser_cascade R a0 w := by kernel_rfl
theorem t_tree_parser_cascade (R : Ending → World → Prop) (a0 : Value) (w : World) (h : d_tree_parser_cascade R a0 w) : Tr P F.tree_parser_cascade [a0] w R :=
  fn_ok (fn := Tryz.f141) (c := Tryz.f141.body.getD .skip) (fuel := 4000) mixed tab_ok Tryz.func141 (by kernel_rfl) (by kernel_rfl) (Nat.le_of_ble_eq_true (by kernel_rfl)) (Eq.mpr (e_tree_parser_cascade R a0 w) h)
/-- (*strings.Builder).WriteString -/
def d_strings_Builder_WriteString (R : Ending → World → Prop) (a0 a1 : Value) (w : World) : Prop :=
  cl P F.strings_Builder_copyCheck [a0] (fun t7 w =>
  nc a0 (fun t10 w =>
  fa 1 t10 (fun t11 w =>
  ld t11 (fun t12 w =>
  ap 5 1 1 [.int .u8 0] t12 a1 (fun t14 w =>
  nc a0 (fun t15 w =>
  fa 1 t15 (fun t16 w =>
  st 1 t16 t14 (fun w =>
  lnS a1 (fun t18 w =>
  R (.returned (.tuple #[t18, Value.nilIface])) w) w) w) w) w) w) w) w) w) (fun ch w => R (.panicked ch) w) w
theorem e_strings_Builder_WriteString (R : Ending → World → Prop) (a0 a1 : Value) (w : World) : vcFn P tab 4000 Tryz.f142.ntmps (Tryz.f142.body.getD .skip) Tryz.f142.results.toList [a0, a1] R w = d_strings_Builder_WriteString R a0 a1 w := by kernel_rfl
theorem t_strings_Builder_WriteString (R : Ending → World → Prop) (a0 a1 : Value) (w : World) (h : d_strings_Builder_WriteString R a0 a1 w) : Tr P F.strings_Builder_WriteString [a0, a1] w R :=
  fn_ok (fn := Tryz.f142) (c := Tryz.f142.body.getD .skip) (fuel := 4000) mixed tab_ok Tryz.func142 (by kernel_rfl) (by kernel_rfl) (Nat.le_of_ble_eq_true (by kernel_rfl)) (Eq.mpr (e_strings_Builder_WriteString R a0 a1 w) h)
/-- lapidary/lex.Quote -/
def d_lex_Quote (R : Ending → World → Prop) (a0 : Value) (w : World) : Prop :=
  cl P F.strings_ReplaceAll [a0, (Value.string { data := #[39] }), (Value.string { data := #[39, 39] })] (fun t4 w =>
  bS .add (Value.string { data := #[39] }) t4 (fun t5 w =>
  bS .add t5 (Value.string { data := #[39] }) (fun t6 w =>
  R (.returned t6) w) w) w) (fun ch w => R (.panicked ch) w) w
theorem e_lex_Quote (R : Ending → World → Prop) (a0 : Value) (w : World) : vcFn P tab 4000 Tryz.f143.ntmps (Tryz.f143.body.getD .skip) Tryz.f143.results.toList [a0] R w = d_lex_Quote R a0 w := by kernel_rfl
theorem t_lex_Quote (R : Ending → World → Prop) (a0 : Value) (w : World) (h : d_lex_Quote R a0 w) : Tr P F.lex_Quote [a0] w R :=
  fn_ok (fn := Tryz.f143) (c := Tryz.f143.body.getD .skip) (fuel := 4000) mixed tab_ok Tryz.func143 (by kernel_rfl) (by kernel_rfl) (Nat.le_of_ble_eq_true (by kernel_rfl)) (Eq.mpr (e_lex_Quote R a0 w) h)
/-- lapidary/lex.PlainSymbol -/
def d_lex_PlainSymbol (R : Ending → World → Prop) (a0 : Value) (w : World) : Prop :=
  bd [.string ⟨#[]⟩, .int .i64 0] [(0, 1, a0)] (fun t7 w =>
  al t7.cells.toList 132 (fun t8 w =>
  jn 1 (fun x2 w =>
  cl P F.lex_reader_symbol [t8] (fun t18 w =>
  ex t18 0 (fun t19 w =>
  ex t18 1 (fun t20 w =>
  cnd t20
  (bS .eql t19 a0 (fun t25 w =>
  R (.returned t25) w) w)
  (R (.returned (.bool false)) w)) w) w) (fun ch w => R (.panicked ch) w) w) (fun k1 =>
  bS .eql a0 (Value.string { data := #[] }) (fun t10 w =>
  cnd t10
  (R (.returned (.bool false)) w)
  (ix a0 (Value.int IntKind.i64 0) (fun t13 w =>
  bI .eql .u8 t13 (Value.int IntKind.u8 39) (fun t14 w =>
  cnd t14
  (R (.returned (.bool false)) w)
  (sm [(a0, a0), (t8, t8)] [] [] (k1 (.bool false) w))) w) w)) w)) w) w
theorem e_lex_PlainSymbol (R : Ending → World → Prop) (a0 : Value) (w : World) : vcFn P tab 4000 Tryz.f144.ntmps (Tryz.f144.body.getD .skip) Tryz.f144.results.toList [a0] R w = d_lex_PlainSymbol R a0 w := by kernel_rfl
theorem t_lex_PlainSymbol (R : Ending → World → Prop) (a0 : Value) (w : World) (h : d_lex_PlainSymbol R a0 w) : Tr P F.lex_PlainSymbol [a0] w R :=
  fn_ok (fn := Tryz.f144) (c := Tryz.f144.body.getD .skip) (fuel := 4000) mixed tab_ok Tryz.func144 (by kernel_rfl) (by kernel_rfl) (Nat.le_of_ble_eq_true (by kernel_rfl)) (Eq.mpr (e_lex_PlainSymbol R a0 w) h)
/-- (*lapidary/tree.writer).list -/
def d_tree_writer_list (R : Ending → World → Prop) (a0 a1 a2 : Value) (w : World) : Prop :=
  lnL a1 (fun t9 w =>
  lp 1 [(Value.int IntKind.i64 0)] (fun r1 x10 w =>
  bI .lss .i64 x10 t9 (fun t11 w =>
  cnd t11
  (ia 6 a1 x10 (fun t13 w =>
  ldn 6 t13 (fun t14 w =>
  al [.int .i64 0, .string ⟨#[]⟩, .int .i64 0, .int .i64 0, .slice none 0 0, .slice none 0 0] 50 (fun t7 w =>
  st 6 t7 t14 (fun w =>
  bI .gtr .i64 x10 (Value.int IntKind.i64 0) (fun t16 w =>
  cnd t16
  (nc a0 (fun t18 w =>
  fa 0 t18 (fun t19 w =>
  cl P F.strings_Builder_WriteString [t19, a2] (fun t21 w =>
  ldn 6 t7 (fun t23 w =>
  cl P F.tree_writer_node [a0, t23] (fun t24 w =>
  bI .add .i64 x10 (Value.int IntKind.i64 1) (fun t25 w =>
  sm [(a0, a0), (a2, a2), (a1, a1), (t9, t9)] [] [] (r1 [t25] w)) w) (fun ch w => R (.panicked ch) w) w) w) (fun ch w => R (.panicked ch) w) w) w) w)
  (ldn 6 t7 (fun t23 w =>
  cl P F.tree_writer_node [a0, t23] (fun t24 w =>
  bI .add .i64 x10 (Value.int IntKind.i64 1) (fun t25 w =>
  sm [(a0, a0), (a2, a2), (a1, a1), (t9, t9)] [] [] (r1 [t25] w)) w) (fun ch w => R (.panicked ch) w) w) w)) w) w) w) w) w)
  (R (.returned (.tuple #[])) w)) w) w) w
theorem e_tree_writer_list (R : Ending → World → Prop) (a0 a1 a2 : Value) (w : World) : vcFn P tab 4000 Tryz.f145.ntmps (Tryz.f145.body.getD .skip) Tryz.f145.results.toList [a0, a1, a2] R w = d_tree_writer_list R a0 a1 a2 w := by kernel_rfl
theorem t_tree_writer_list (R : Ending → World → Prop) (a0 a1 a2 : Value) (w : World) (h : d_tree_writer_list R a0 a1 a2 w) : Tr P F.tree_writer_list [a0, a1, a2] w R :=
  fn_ok (fn := Tryz.f145) (c := Tryz.f145.body.getD .skip) (fuel := 4000) mixed tab_ok Tryz.func145 (by kernel_rfl) (by kernel_rfl) (Nat.le_of_ble_eq_true (by kernel_rfl)) (Eq.mpr (e_tree_writer_list R a0 a1 a2 w) h)
/-- internal/stringslite.CutPrefix -/
def d_internal_stringslite_CutPrefix (R : Ending → World → Prop) (a0 a1 : Value) (w : World) : Prop :=
  cl P F.internal_stringslite_HasPrefix [a0, a1] (fun t8 w =>
  uN t8 (fun t9 w =>
  cnd t9
  (R (.returned (.tuple #[a0, (.bool false)])) w)
  (lnS a1 (fun t13 w =>
  slS a0 (some t13) none (fun t14 w =>
  R (.returned (.tuple #[t14, (.bool true)])) w) w) w)) w) (fun ch w => R (.panicked ch) w) w
theorem e_internal_stringslite_CutPrefix (R : Ending → World → Prop) (a0 a1 : Value) (w : World) : vcFn P tab 4000 Tryz.f159.ntmps (Tryz.f159.body.getD .skip) Tryz.f159.results.toList [a0, a1] R w = d_internal_stringslite_CutPrefix R a0 a1 w := by kernel_rfl
theorem t_internal_stringslite_CutPrefix (R : Ending → World → Prop) (a0 a1 : Value) (w : World) (h : d_internal_stringslite_CutPrefix R a0 a1 w) : Tr P F.internal_stringslite_CutPrefix [a0, a1] w R :=
  fn_ok (fn := Tryz.f159) (c := Tryz.f159.body.getD .skip) (fuel := 4000) mixed tab_ok Tryz.func159 (by kernel_rfl) (by kernel_rfl) (Nat.le_of_ble_eq_true (by kernel_rfl)) (Eq.mpr (e_internal_stringslite_CutPrefix R a0 a1 w) h)
/-- strings.indexFunc -/
def d_strings_indexFunc (R : Ending → World → Prop) (a0 a1 a2 : Value) (w : World) : Prop :=
  rgS a0 (fun t10 w =>
  lp 1 [(Value.int IntKind.i64 0)] (fun r1 x6 w =>
  nxS t10 (fun t11 w =>
  ex t11 0 (fun t12 w =>
  cnd t12
  (ex t11 1 (fun t13 w =>
  ex t11 2 (fun t14 w =>
  clv P a1 [t14] (fun t17 w =>
  bB .eql t17 a2 (fun t19 w =>
  cnd t19
  (R (.returned t13) w)
  (sm [(a1, a1), (a2, a2), (t10, t10)] [] [] (r1 [x6] w))) w) (fun ch w => R (.panicked ch) w) w) w) w)
  (R (.returned (Value.int IntKind.i64 (-1))) w)) w) w) w) w
theorem e_strings_indexFunc (R : Ending → World → Prop) (a0 a1 a2 : Value) (w : World) : vcFn P tab 4000 Tryz.f160.ntmps (Tryz.f160.body.getD .skip) Tryz.f160.results.toList [a0, a1, a2] R w = d_strings_indexFunc R a0 a1 a2 w := by kernel_rfl
theorem t_strings_indexFunc (R : Ending → World → Prop) (a0 a1 a2 : Value) (w : World) (h : d_strings_indexFunc R a0 a1 a2 w) : Tr P F.strings_indexFunc [a0, a1, a2] w R :=
  fn_ok (fn := Tryz.f160) (c := Tryz.f160.body.getD .skip) (fuel := 4000) mixed tab_ok Tryz.func160 (by kernel_rfl) (by kernel_rfl) (Nat.le_of_ble_eq_true (by kernel_rfl)) (Eq.mpr (e_strings_indexFunc R a0 a1 a2 w) h)
/-- lapidary/whole.made -/
def d_whole_made (R : Ending → World → Prop) (a0 a1 : Value) (w : World) : Prop :=
  al [.bool false, .slice none 0 0] 178 (fun t4 w =>
  cl P F.whole_words_bytes [a1] (fun t7 w =>
  cnd a0
  (lnL t7 (fun t11 w =>
  bI .gtr .i64 t11 (Value.int IntKind.i64 0) (fun t12 w =>
  bd [.bool false, .slice none 0 0] [(0, 1, t12), (1, 1, t7)] (fun t15 w =>
  st 2 t4 t15 (fun w =>
  ldn 2 t4 (fun r0 w =>
  R (.returned r0) w) w) w) w) w) w)
  (bd [.bool false, .slice none 0 0] [(0, 1, (.bool false)), (1, 1, t7)] (fun t15 w =>
  st 2 t4 t15 (fun w =>
  ldn 2 t4 (fun r0 w =>
  R (.returned r0) w) w) w) w)) (fun ch w => R (.panicked ch) w) w) w
theorem e_whole_made (R : Ending → World → Prop) (a0 a1 : Value) (w : World) : vcFn P tab 4000 Tryz.f161.ntmps (Tryz.f161.body.getD .skip) Tryz.f161.results.toList [a0, a1] R w = d_whole_made R a0 a1 w := by kernel_rfl
theorem t_whole_made (R : Ending → World → Prop) (a0 a1 : Value) (w : World) (h : d_whole_made R a0 a1 w) : Tr P F.whole_made [a0, a1] w R :=
  fn_ok (fn := Tryz.f161) (c := Tryz.f161.body.getD .skip) (fuel := 4000) mixed tab_ok Tryz.func161 (by kernel_rfl) (by kernel_rfl) (Nat.le_of_ble_eq_true (by kernel_rfl)) (Eq.mpr (e_whole_made R a0 a1 w) h)
/-- (*strings.Builder).copyCheck -/
def d_strings_Builder_copyCheck (R : Ending → World → Prop) (a0 : Value) (w : World) : Prop :=
  nc a0 (fun t3 w =>
  fa 0 t3 (fun t4 w =>
  ld t4 (fun t5 w =>
  bN .eql (.ptr 189) t5 (Value.pointer none) (fun t6 w =>
  cnd t6
  (rx P (convert 187 245 a0) (fun t9 w =>
  cl P F.internal_abi_NoEscape [t9] (fun t10 w =>
  rx P (convert 245 187 t10) (fun t11 w =>
  nc a0 (fun t12 w =>
  fa 0 t12 (fun t13 w =>
  st 1 t13 t11 (fun w =>
  R (.returned (.tuple #[])) w) w) w) w) w) (fun ch w => R (.panicked ch) w) w) w)
  (nc a0 (fun t15 w =>
  fa 0 t15 (fun t16 w =>
  ld t16 (fun t17 w =>
  rV P (eqRun .neq 187 (Operand.tmp 17) (Operand.tmp 18) t17 a0) (fun t19 w =>
  cnd t19
  (False)
  (R (.returned (.tuple #[])) w)) w) w) w) w)) w) w) w) w
theorem e_strings_Builder_copyCheck (R : Ending → World → Prop) (a0 : Value) (w : World) : vcFn P tab 4000 Tryz.f162.ntmps (Tryz.f162.body.getD .skip) Tryz.f162.results.toList [a0] R w = d_strings_Builder_copyCheck R a0 w := by kernel_rfl
theorem t_strings_Builder_copyCheck (R : Ending → World → Prop) (a0 : Value) (w : World) (h : d_strings_Builder_copyCheck R a0 w) : Tr P F.strings_Builder_copyCheck [a0] w R :=
  fn_ok (fn := Tryz.f162) (c := Tryz.f162.body.getD .skip) (fuel := 4000) mixed tab_ok Tryz.func162 (by kernel_rfl) (by kernel_rfl) (Nat.le_of_ble_eq_true (by kernel_rfl)) (Eq.mpr (e_strings_Builder_copyCheck R a0 w) h)
/-- (*lapidary/tree.parser).keyed -/
def d_tree_parser_keyed (R : Ending → World → Prop) (a0 : Value) (w : World) : Prop :=
  al [.int .i64 0, .string ⟨#[]⟩, .int .i64 0, .int .i64 0, .slice none 0 0, .slice none 0 0] 50 (fun t2 w =>
  cl P F.tree_parser_chain [a0, (Value.int IntKind.i64 2), (.bool true), (.func (.func F.tree_parser_binary) #[a0] #[])] (fun t7 w =>
  ex t7 0 (fun t8 w =>
  ex t7 1 (fun t9 w =>
  st 6 t2 t8 (fun w =>
  ldn 6 t2 (fun r0 w =>
  R (.returned (.tuple #[r0, t9])) w) w) w) w) w) (fun ch w => R (.panicked ch) w) w) w
theorem e_tree_parser_keyed (R : Ending → World → Prop) (a0 : Value) (w : World) : vcFn P tab 4000 Tryz.f163.ntmps (Tryz.f163.body.getD .skip) Tryz.f163.results.toList [a0] R w = d_tree_parser_keyed R a0 w := by kernel_rfl
theorem t_tree_parser_keyed (R : Ending → World → Prop) (a0 : Value) (w : World) (h : d_tree_parser_keyed R a0 w) : Tr P F.tree_parser_keyed [a0] w R :=
  fn_ok (fn := Tryz.f163) (c := Tryz.f163.body.getD .skip) (fuel := 4000) mixed tab_ok Tryz.func163 (by kernel_rfl) (by kernel_rfl) (Nat.le_of_ble_eq_true (by kernel_rfl)) (Eq.mpr (e_tree_parser_keyed R a0 w) h)
/-- (*lapidary/tree.parser).message -/
def d_tree_parser_message (R : Ending → World → Prop) (a0 : Value) (w : World) : Prop :=
  al [.int .i64 0, .string ⟨#[]⟩, .int .i64 0, .int .i64 0, .slice none 0 0, .slice none 0 0] 50 (fun t2 w =>
  nc a0 (fun t10 w =>
  fa 0 t10 (fun t11 w =>
  ld t11 (fun t12 w =>
  ia 3 t12 (Value.int IntKind.i64 0) (fun t13 w =>
  ldn 3 t13 (fun t14 w =>
  al [.int .i64 0, .string ⟨#[]⟩, .int .i64 0] 112 (fun t3 w =>
  st 3 t3 t14 (fun w =>
  fa 2 t3 (fun t15 w =>
  ld t15 (fun t16 w =>
  bd [.int .i64 0, .string ⟨#[]⟩, .int .i64 0, .int .i64 0, .slice none 0 0, .slice none 0 0] [(0, 1, (Value.int IntKind.i64 9)), (2, 1, t16)] (fun t17 w =>
  al [.int .i64 0, .string ⟨#[]⟩, .int .i64 0, .int .i64 0, .slice none 0 0, .slice none 0 0] 50 (fun t4 w =>
  st 6 t4 t17 (fun w =>
  fa 0 t3 (fun t18 w =>
  ld t18 (fun t19 w =>
  bI .eql .i64 t19 (Value.int IntKind.i64 1) (fun t23 w =>
  cnd t23
  (cl P F.tree_parser_take [a0] (fun t25 w =>
  fl false 1 1 t25 (fun t26 w =>
  fa 1 t4 (fun t27 w =>
  st 1 t27 t26 (fun w =>
  ldn 6 t4 (fun t65 w =>
  st 6 t2 t65 (fun w =>
  ldn 6 t2 (fun r0 w =>
  R (.returned r0) w) w) w) w) w) w) w) (fun ch w => R (.panicked ch) w) w)
  (bI .eql .i64 t19 (Value.int IntKind.i64 3) (fun t29 w =>
  cnd t29
  (cl P F.tree_parser_take [a0] (fun t31 w =>
  fl false 1 1 t31 (fun t32 w =>
  fa 1 t4 (fun t33 w =>
  st 1 t33 t32 (fun w =>
  cl P F.tree_parser_unary [a0] (fun t36 w =>
  ex t36 0 (fun t37 w =>
  ex t36 1 (fun t38 w =>
  al [.int .i64 0, .string ⟨#[]⟩, .int .i64 0, .int .i64 0, .slice none 0 0, .slice none 0 0] 50 (fun t5 w =>
  st 6 t5 t37 (fun w =>
  ldn 6 t5 (fun t39 w =>
  bs 50 [.int .i64 0, .string ⟨#[]⟩, .int .i64 0, .int .i64 0, .slice none 0 0, .slice none 0 0] 1 [(0, 6, t39)] (fun t40 w =>
  fa 5 t4 (fun t41 w =>
  st 1 t41 t40 (fun w =>
  ldn 6 t4 (fun t65 w =>
  st 6 t2 t65 (fun w =>
  ldn 6 t2 (fun r0 w =>
  R (.returned r0) w) w) w) w) w) w) w) w) w) w) w) w) (fun ch w => R (.panicked ch) w) w) w) w) w) (fun ch w => R (.panicked ch) w) w)
  (bI .eql .i64 t19 (Value.int IntKind.i64 2) (fun t43 w =>
  cnd t43
  (lp 0 [] (fun r1 w =>
  cl P F.tree_parser_kind [a0] (fun t45 w =>
  bI .eql .i64 t45 (Value.int IntKind.i64 2) (fun t46 w =>
  cnd t46
  (drw w (fun w =>
  fa 1 t4 (fun t47 w =>
  ld t47 (fun t48 w =>
  cl P F.tree_parser_take [a0] (fun t50 w =>
  rk false t47 t48
  (fl false 1 1 t50 (fun t51 w =>
  bS .add t48 t51 (fun t52 w =>
  fa 1 t4 (fun t53 w =>
  st 1 t53 t52 (fun w =>
  cl P F.tree_parser_binary [a0] (fun t56 w =>
  ex t56 0 (fun t57 w =>
  ex t56 1 (fun t58 w =>
  al [.int .i64 0, .string ⟨#[]⟩, .int .i64 0, .int .i64 0, .slice none 0 0, .slice none 0 0] 50 (fun t7 w =>
  st 6 t7 t57 (fun w =>
  fa 5 t4 (fun t59 w =>
  ld t59 (fun t60 w =>
  ldn 6 t7 (fun t61 w =>
  bs 50 [.int .i64 0, .string ⟨#[]⟩, .int .i64 0, .int .i64 0, .slice none 0 0, .slice none 0 0] 1 [(0, 6, t61)] (fun t62 w =>
  ap 50 6 88 [.int .i64 0, .string ⟨#[]⟩, .int .i64 0, .int .i64 0, .slice none 0 0, .slice none 0 0] t60 t62 (fun t63 w =>
  fa 5 t4 (fun t64 w =>
  st 1 t64 t63 (fun w =>
  sm [(a0, a0), (t2, t2), (t4, t4)] [] [] (r1 [] w)) w) w) w) w) w) w) w) w) w) w) w) (fun ch w => R (.panicked ch) w) w) w) w) w) w) w) (fun ch w => R (.panicked ch) w) w) w) w))
  (ldn 6 t4 (fun t65 w =>
  st 6 t2 t65 (fun w =>
  ldn 6 t2 (fun r0 w =>
  R (.returned r0) w) w) w) w)) w) (fun ch w => R (.panicked ch) w) w) w)
  (cl P F.tree_parser_bad [a0, (Value.int IntKind.i64 20)] (fun t21 w =>
  ldn 6 t4 (fun t65 w =>
  st 6 t2 t65 (fun w =>
  ldn 6 t2 (fun r0 w =>
  R (.returned r0) w) w) w) w) (fun ch w => R (.panicked ch) w) w)) w)) w)) w) w) w) w) w) w) w) w) w) w) w) w) w) w) w) w
theorem e_tree_parser_message (R : Ending → World → Prop) (a0 : Value) (w : World) : vcFn P tab 4000 Tryz.f164.ntmps (Tryz.f164.body.getD .skip) Tryz.f164.results.toList [a0] R w = d_tree_parser_message R a0 w := by kernel_rfl
theorem t_tree_parser_message (R : Ending → World → Prop) (a0 : Value) (w : World) (h : d_tree_parser_message R a0 w) : Tr P F.tree_parser_message [a0] w R :=
  fn_ok (fn := Tryz.f164) (c := Tryz.f164.body.getD .skip) (fuel := 4000) mixed tab_ok Tryz.func164 (by kernel_rfl) (by kernel_rfl) (Nat.le_of_ble_eq_true (by kernel_rfl)) (Eq.mpr (e_tree_parser_message R a0 w) h)
/-- strings.ReplaceAll -/
def d_strings_ReplaceAll (R : Ending → World → Prop) (a0 a1 a2 : Value) (w : World) : Prop :=
  cl P F.strings_Replace [a0, a1, a2, (Value.int IntKind.i64 (-1))] (fun t10 w =>
  R (.returned t10) w) (fun ch w => R (.panicked ch) w) w
theorem e_strings_ReplaceAll (R : Ending → World → Prop) (a0 a1 a2 : Value) (w : World) : vcFn P tab 4000 Tryz.f165.ntmps (Tryz.f165.body.getD .skip) Tryz.f165.results.toList [a0, a1, a2] R w = d_strings_ReplaceAll R a0 a1 a2 w := by kernel_rfl
theorem t_strings_ReplaceAll (R : Ending → World → Prop) (a0 a1 a2 : Value) (w : World) (h : d_strings_ReplaceAll R a0 a1 a2 w) : Tr P F.strings_ReplaceAll [a0, a1, a2] w R :=
  fn_ok (fn := Tryz.f165) (c := Tryz.f165.body.getD .skip) (fuel := 4000) mixed tab_ok Tryz.func165 (by kernel_rfl) (by kernel_rfl) (Nat.le_of_ble_eq_true (by kernel_rfl)) (Eq.mpr (e_strings_ReplaceAll R a0 a1 a2 w) h)
/-- internal/stringslite.HasPrefix -/
def d_internal_stringslite_HasPrefix (R : Ending → World → Prop) (a0 a1 : Value) (w : World) : Prop :=
  lnS a0 (fun t6 w =>
  lnS a1 (fun t8 w =>
  bI .geq .i64 t6 t8 (fun t9 w =>
  cnd t9
  (lnS a1 (fun t13 w =>
  slS a0 none (some t13) (fun t14 w =>
  bS .eql t14 a1 (fun t16 w =>
  R (.returned t16) w) w) w) w)
  (R (.returned (.bool false)) w)) w) w) w
theorem e_internal_stringslite_HasPrefix (R : Ending → World → Prop) (a0 a1 : Value) (w : World) : vcFn P tab 4000 Tryz.f179.ntmps (Tryz.f179.body.getD .skip) Tryz.f179.results.toList [a0, a1] R w = d_internal_stringslite_HasPrefix R a0 a1 w := by kernel_rfl
theorem t_internal_stringslite_HasPrefix (R : Ending → World → Prop) (a0 a1 : Value) (w : World) (h : d_internal_stringslite_HasPrefix R a0 a1 w) : Tr P F.internal_stringslite_HasPrefix [a0, a1] w R :=
  fn_ok (fn := Tryz.f179) (c := Tryz.f179.body.getD .skip) (fuel := 4000) mixed tab_ok Tryz.func179 (by kernel_rfl) (by kernel_rfl) (Nat.le_of_ble_eq_true (by kernel_rfl)) (Eq.mpr (e_internal_stringslite_HasPrefix R a0 a1 w) h)
/-- (lapidary/whole.words).bytes -/
def d_whole_words_bytes (R : Ending → World → Prop) (a0 : Value) (w : World) : Prop :=
  al [.slice none 0 0] 176 (fun t3 w =>
  cl P F.whole_words_trim [a0] (fun t8 w =>
  cl P F.slices_Backward_whole_words_uint32 [t8] (fun t9 w =>
  rf P 2 t9 (fun o1 ob1 l1 n1 x10 x11 w =>
  lk l1 o1 (up l1 o1 ob1 (fun w =>
  bH .shr .u32 x11 (Value.int IntKind.u64 24) (fun t13 w =>
  cI .u8 t13 (fun t14 w =>
  bH .shr .u32 x11 (Value.int IntKind.u64 16) (fun t16 w =>
  cI .u8 t16 (fun t17 w =>
  bH .shr .u32 x11 (Value.int IntKind.u64 8) (fun t19 w =>
  cI .u8 t19 (fun t20 w =>
  cI .u8 x11 (fun t22 w =>
  bd [.int .u8 0, .int .u8 0, .int .u8 0, .int .u8 0] [(0, 1, t14), (1, 1, t17), (2, 1, t20), (3, 1, t22)] (fun t23 w =>
  al [.int .u8 0, .int .u8 0, .int .u8 0, .int .u8 0] 252 (fun t6 w =>
  st 4 t6 t23 (fun w =>
  drw w (fun w =>
  ld t3 (fun t24 w =>
  slA 4 1 t6 none none none (fun t25 w =>
  ap 5 1 1 [.int .u8 0] t24 t25 (fun t26 w =>
  st 1 t3 t26 (fun w =>
  up l1 ob1 o1 n1 w) w) w) w) w)) w) w) w) w) w) w) w) w) w) w) w) w) (fun d1 w =>
  lp 0 [] (fun r2 w =>
  ld t3 (fun t27 w =>
  lnL t27 (fun t28 w =>
  bI .gtr .i64 t28 (Value.int IntKind.i64 0) (fun t29 w =>
  cnd t29
  (ld t3 (fun t31 w =>
  ia 1 t31 (Value.int IntKind.i64 0) (fun t32 w =>
  ld t32 (fun t33 w =>
  bI .eql .u8 t33 (Value.int IntKind.u8 0) (fun t34 w =>
  cnd t34
  (ld t3 (fun t36 w =>
  slL 1 t36 (some (Value.int IntKind.i64 1)) none none (fun t37 w =>
  st 1 t3 t37 (fun w =>
  sm [((Value.slice none 0 0), (Value.slice none 0 0)), (t3, t3)] (mark d1 :: []) (mark d1 :: []) (r2 [] w)) w) w) w)
  (ld t3 (fun t38 w =>
  cl P F.slices_Clone_byte_byte [t38] (fun t39 w =>
  up d1 (.deferred (some [])) (.deferred none) (fun w =>
  R (.returned t39) w) w) (fun ch w => up d1 (.deferred (some [])) (.deferred none) (fun w =>
  R (.panicked ch) w) w) w) w)) w) w) w) w)
  (ld t3 (fun t38 w =>
  cl P F.slices_Clone_byte_byte [t38] (fun t39 w =>
  up d1 (.deferred (some [])) (.deferred none) (fun w =>
  R (.returned t39) w) w) (fun ch w => up d1 (.deferred (some [])) (.deferred none) (fun w =>
  R (.panicked ch) w) w) w) w)) w) w) w) w) w) (fun ch w => R (.panicked ch) w) w) (fun ch w => R (.panicked ch) w) w) w
theorem e_whole_words_bytes (R : Ending → World → Prop) (a0 : Value) (w : World) : vcFnM P tab 4000 Tryz.f180.ntmps (Tryz.f180.body.getD .skip) Tryz.f180.results.toList [a0] R w = d_whole_words_bytes R a0 w := by kernel_rfl
theorem t_whole_words_bytes (R : Ending → World → Prop) (a0 : Value) (w : World) (h : d_whole_words_bytes R a0 w) : Tr P F.whole_words_bytes [a0] w R :=
  fnM_ok (fn := Tryz.f180) (c := Tryz.f180.body.getD .skip) (fuel := 4000) mixed tab_ok Tryz.func180 (by kernel_rfl) (by kernel_rfl) (Nat.le_of_ble_eq_true (by kernel_rfl)) (Eq.mpr (e_whole_words_bytes R a0 w) h)
/-- (*lapidary/tree.parser).chain -/
def d_tree_parser_chain (R : Ending → World → Prop) (a0 a1 a2 a3 : Value) (w : World) : Prop :=
  al [.int .i64 0, .string ⟨#[]⟩, .int .i64 0, .int .i64 0, .slice none 0 0, .slice none 0 0] 50 (fun t8 w =>
  clv P a3 [] (fun t14 w =>
  ex t14 0 (fun t15 w =>
  ex t14 1 (fun t16 w =>
  al [.int .i64 0, .string ⟨#[]⟩, .int .i64 0, .int .i64 0, .slice none 0 0, .slice none 0 0] 50 (fun t10 w =>
  st 6 t10 t15 (fun w =>
  lp 1 [t16] (fun r1 x11 w =>
  cl P F.tree_parser_kind [a0] (fun t18 w =>
  bI .eql .i64 t18 a1 (fun t20 w =>
  cnd t20
  (ldn 6 t10 (fun t22 w =>
  cl P F.tree_parser_sent [a0, t22] (fun t23 w =>
  st 6 t10 t23 (fun w =>
  cnd a2
  (ldn 6 t10 (fun t25 w =>
  st 6 t8 t25 (fun w =>
  ldn 6 t8 (fun r0 w =>
  R (.returned (.tuple #[r0, (.bool true)])) w) w) w) w)
  (sm [(a0, a0), (a1, a1), (a2, a2), (t8, t8), ((.bool false), (.bool false)), (t10, t10)] [] [] (r1 [(.bool true)] w))) w) (fun ch w => R (.panicked ch) w) w) w)
  (ldn 6 t10 (fun t25 w =>
  st 6 t8 t25 (fun w =>
  ldn 6 t8 (fun r0 w =>
  R (.returned (.tuple #[r0, x11])) w) w) w) w)) w) (fun ch w => R (.panicked ch) w) w) w) w) w) w) w) (fun ch w => R (.panicked ch) w) w) w
theorem e_tree_parser_chain (R : Ending → World → Prop) (a0 a1 a2 a3 : Value) (w : World) : vcFn P tab 4000 Tryz.f182.ntmps (Tryz.f182.body.getD .skip) Tryz.f182.results.toList [a0, a1, a2, a3] R w = d_tree_parser_chain R a0 a1 a2 a3 w := by kernel_rfl
theorem t_tree_parser_chain (R : Ending → World → Prop) (a0 a1 a2 a3 : Value) (w : World) (h : d_tree_parser_chain R a0 a1 a2 a3 w) : Tr P F.tree_parser_chain [a0, a1, a2, a3] w R :=
  fn_ok (fn := Tryz.f182) (c := Tryz.f182.body.getD .skip) (fuel := 4000) mixed tab_ok Tryz.func182 (by kernel_rfl) (by kernel_rfl) (Nat.le_of_ble_eq_true (by kernel_rfl)) (Eq.mpr (e_tree_parser_chain R a0 a1 a2 a3 w) h)
/-- (*lapidary/tree.parser).binary -/
def d_tree_parser_binary (R : Ending → World → Prop) (a0 : Value) (w : World) : Prop :=
  al [.int .i64 0, .string ⟨#[]⟩, .int .i64 0, .int .i64 0, .slice none 0 0, .slice none 0 0] 50 (fun t2 w =>
  cl P F.tree_parser_chain [a0, (Value.int IntKind.i64 3), (.bool false), (.func (.func F.tree_parser_unary) #[a0] #[])] (fun t7 w =>
  ex t7 0 (fun t8 w =>
  ex t7 1 (fun t9 w =>
  st 6 t2 t8 (fun w =>
  ldn 6 t2 (fun r0 w =>
  R (.returned (.tuple #[r0, t9])) w) w) w) w) w) (fun ch w => R (.panicked ch) w) w) w
theorem e_tree_parser_binary (R : Ending → World → Prop) (a0 : Value) (w : World) : vcFn P tab 4000 Tryz.f183.ntmps (Tryz.f183.body.getD .skip) Tryz.f183.results.toList [a0] R w = d_tree_parser_binary R a0 w := by kernel_rfl
theorem t_tree_parser_binary (R : Ending → World → Prop) (a0 : Value) (w : World) (h : d_tree_parser_binary R a0 w) : Tr P F.tree_parser_binary [a0] w R :=
  fn_ok (fn := Tryz.f183) (c := Tryz.f183.body.getD .skip) (fuel := 4000) mixed tab_ok Tryz.func183 (by kernel_rfl) (by kernel_rfl) (Nat.le_of_ble_eq_true (by kernel_rfl)) (Eq.mpr (e_tree_parser_binary R a0 w) h)
/-- (*lapidary/tree.parser).unary -/
def d_tree_parser_unary (R : Ending → World → Prop) (a0 : Value) (w : World) : Prop :=
  al [.int .i64 0, .string ⟨#[]⟩, .int .i64 0, .int .i64 0, .slice none 0 0, .slice none 0 0] 50 (fun t2 w =>
  cl P F.tree_parser_chain [a0, (Value.int IntKind.i64 1), (.bool false), (.func (.func F.tree_parser_primary) #[a0] #[])] (fun t7 w =>
  ex t7 0 (fun t8 w =>
  ex t7 1 (fun t9 w =>
  st 6 t2 t8 (fun w =>
  ldn 6 t2 (fun r0 w =>
  R (.returned (.tuple #[r0, t9])) w) w) w) w) w) (fun ch w => R (.panicked ch) w) w) w
theorem e_tree_parser_unary (R : Ending → World → Prop) (a0 : Value) (w : World) : vcFn P tab 4000 Tryz.f184.ntmps (Tryz.f184.body.getD .skip) Tryz.f184.results.toList [a0] R w = d_tree_parser_unary R a0 w := by kernel_rfl
theorem t_tree_parser_unary (R : Ending → World → Prop) (a0 : Value) (w : World) (h : d_tree_parser_unary R a0 w) : Tr P F.tree_parser_unary [a0] w R :=
  fn_ok (fn := Tryz.f184) (c := Tryz.f184.body.getD .skip) (fuel := 4000) mixed tab_ok Tryz.func184 (by kernel_rfl) (by kernel_rfl) (Nat.le_of_ble_eq_true (by kernel_rfl)) (Eq.mpr (e_tree_parser_unary R a0 w) h)
/-- strings.Replace -/
def d_strings_Replace (R : Ending → World → Prop) (a0 a1 a2 a3 : Value) (w : World) : Prop :=
  jn 1 (fun x8 w =>
  jn 2 (fun x3 x8 w =>
  al [.pointer none, .slice none 0 0] 189 (fun t10 w =>
  lnS a0 (fun t39 w =>
  lnS a2 (fun t42 w =>
  lnS a1 (fun t44 w =>
  bI .sub .i64 t42 t44 (fun t45 w =>
  bI .mul .i64 x3 t45 (fun t46 w =>
  bI .add .i64 t39 t46 (fun t47 w =>
  cl P F.strings_Builder_Grow [t10, t47] (fun t48 w =>
  jn 1 (fun x11 w =>
  slS a0 (some x11) none (fun t101 w =>
  cl P F.strings_Builder_WriteString [t10, t101] (fun t102 w =>
  cl P F.strings_Builder_String [t10] (fun t103 w =>
  R (.returned t103) w) (fun ch w => R (.panicked ch) w) w) (fun ch w => R (.panicked ch) w) w) w) (fun k3 =>
  lnS a1 (fun t50 w =>
  bI .gtr .i64 t50 (Value.int IntKind.i64 0) (fun t51 w =>
  cnd t51
  (lp 2 [(Value.int IntKind.i64 0), (Value.int IntKind.i64 0)] (fun r4 x11 x53 w =>
  bI .lss .i64 x53 x3 (fun t54 w =>
  cnd t54
  (slS a0 (some x11) none (fun t58 w =>
  cl P F.strings_Index [t58, a1] (fun t60 w =>
  bI .add .i64 x11 t60 (fun t61 w =>
  slS a0 (some x11) (some t61) (fun t65 w =>
  cl P F.strings_Builder_WriteString [t10, t65] (fun t66 w =>
  cl P F.strings_Builder_WriteString [t10, a2] (fun t68 w =>
  lnS a1 (fun t71 w =>
  bI .add .i64 t61 t71 (fun t72 w =>
  bI .add .i64 x53 (Value.int IntKind.i64 1) (fun t73 w =>
  sm [(a0, a0), (a1, a1), (a2, a2), (x8, x8), (t10, t10), (x3, x3)] [] [] (r4 [t72, t73] w)) w) w) w) (fun ch w => R (.panicked ch) w) w) (fun ch w => R (.panicked ch) w) w) w) w) (fun ch w => R (.panicked ch) w) w) w)
  (sm [(a0, a0), (x8, x8), (t10, t10)] [] [] (k3 x11 w))) w) w)
  (cl P F.strings_Builder_WriteString [t10, a2] (fun t75 w =>
  bI .sub .i64 x3 (Value.int IntKind.i64 1) (fun t77 w =>
  lp 2 [(Value.int IntKind.i64 0), (Value.int IntKind.i64 0)] (fun r5 x11 x78 w =>
  bI .lss .i64 x78 t77 (fun t79 w =>
  cnd t79
  (slS a0 (some x11) none (fun t83 w =>
  cl P F.unicode_utf8_DecodeRuneInString [t83] (fun t84 w =>
  ex t84 0 (fun t85 w =>
  ex t84 1 (fun t86 w =>
  bI .add .i64 x11 t86 (fun t89 w =>
  slS a0 (some x11) (some t89) (fun t93 w =>
  cl P F.strings_Builder_WriteString [t10, t93] (fun t94 w =>
  cl P F.strings_Builder_WriteString [t10, a2] (fun t96 w =>
  bI .add .i64 x78 (Value.int IntKind.i64 1) (fun t98 w =>
  sm [(a0, a0), (a2, a2), (x8, x8), (t10, t10), (t77, t77)] [] [] (r5 [t89, t98] w)) w) (fun ch w => R (.panicked ch) w) w) (fun ch w => R (.panicked ch) w) w) w) w) w) w) (fun ch w => R (.panicked ch) w) w) w)
  (sm [(a0, a0), (x8, x8), (t10, t10)] [] [] (k3 x11 w))) w) w) w) (fun ch w => R (.panicked ch) w) w)) w) w)) (fun ch w => R (.panicked ch) w) w) w) w) w) w) w) w) w) (fun k2 =>
  cl P F.strings_Count [a0, a1] (fun t26 w =>
  bI .eql .i64 t26 (Value.int IntKind.i64 0) (fun t28 w =>
  cnd t28
  (R (.returned a0) w)
  (bI .lss .i64 a3 (Value.int IntKind.i64 0) (fun t31 w =>
  cnd t31
  (sm [(a0, a0), (a1, a1), (a2, a2)] [] [] (k2 t26 x8 w))
  (bI .lss .i64 t26 a3 (fun t35 w =>
  cnd t35
  (sm [(a0, a0), (a1, a1), (a2, a2)] [] [] (k2 t26 x8 w))
  (sm [(a0, a0), (a1, a1), (a2, a2)] [] [] (k2 a3 x8 w))) w)) w)) w) (fun ch w => R (.panicked ch) w) w)) (fun k1 =>
  bS .eql a1 a2 (fun t18 w =>
  cnd t18
  (R (.returned a0) w)
  (bI .eql .i64 a3 (Value.int IntKind.i64 0) (fun t21 w =>
  cnd t21
  (R (.returned a0) w)
  (sm [(a0, a0), (a1, a1), (a2, a2), (a3, a3)] [] [] (k1 (Value.string { data := #[] }) w))) w)) w)
theorem e_strings_Replace (R : Ending → World → Prop) (a0 a1 a2 a3 : Value) (w : World) : vcFn P tab 4000 Tryz.f185.ntmps (Tryz.f185.body.getD .skip) Tryz.f185.results.toList [a0, a1, a2, a3] R w = d_strings_Replace R a0 a1 a2 a3 w := by kernel_rfl
theorem t_strings_Replace (R : Ending → World → Prop) (a0 a1 a2 a3 : Value) (w : World) (h : d_strings_Replace R a0 a1 a2 a3 w) : Tr P F.strings_Replace [a0, a1, a2, a3] w R :=
  fn_ok (fn := Tryz.f185) (c := Tryz.f185.body.getD .skip) (fuel := 4000) mixed tab_ok Tryz.func185 (by kernel_rfl) (by kernel_rfl) (Nat.le_of_ble_eq_true (by kernel_rfl)) (Eq.mpr (e_strings_Replace R a0 a1 a2 a3 w) h)
end Go.Vx
set_option maxRecDepth 100000
set_option linter.unusedVariables false
namespace Go.Vx
open Go Go.Proofs
/-- (*strings.Builder).Grow -/
def d_strings_Builder_Grow (R : Ending → World → Prop) (a0 a1 : Value) (w : World) : Prop :=
  cl P F.strings_Builder_copyCheck [a0] (fun t5 w =>
  jn 0 (fun w =>
  drw w (fun w =>
  nc a0 (fun t10 w =>
  fa 1 t10 (fun t11 w =>
  ld t11 (fun t12 w =>
  cpL t12 (fun t13 w =>
  nc a0 (fun t15 w =>
  fa 1 t15 (fun t16 w =>
  ld t16 (fun t17 w =>
  lnL t17 (fun t18 w =>
  bI .sub .i64 t13 t18 (fun t19 w =>
  bI .lss .i64 t19 a1 (fun t21 w =>
  cnd t21
  (cl P F.strings_Builder_grow [a0, a1] (fun t24 w =>
  R (.returned (.tuple #[])) w) (fun ch w => R (.panicked ch) w) w)
  (R (.returned (.tuple #[])) w)) w) w) w) w) w) w) w) w) w) w)) (fun k1 =>
  bI .lss .i64 a1 (Value.int IntKind.i64 0) (fun t7 w =>
  cnd t7
  (pn (.iface 9 (Value.string { data := #[115, 116, 114, 105, 110, 103, 115, 46, 66, 117, 105, 108, 100, 101, 114, 46, 71, 114, 111, 119, 58, 32, 110, 101, 103, 97, 116, 105, 118, 101, 32, 99, 111, 117, 110, 116] })) (fun ch w => R (.panicked ch) w) w)
  (sm [(a0, a0), (a1, a1)] [] [] (k1 w))) w)) (fun ch w => R (.panicked ch) w) w
theorem e_strings_Builder_Grow (R : Ending → World → Prop) (a0 a1 : Value) (w : World) : vcFn P tab 4000 Tryz.f187.ntmps (Tryz.f187.body.getD .skip) Tryz.f187.results.toList [a0, a1] R w = d_strings_Builder_Grow R a0 a1 w := by kernel_rfl
theorem t_strings_Builder_Grow (R : Ending → World → Prop) (a0 a1 : Value) (w : World) (h : d_strings_Builder_Grow R a0 a1 w) : Tr P F.strings_Builder_Grow [a0, a1] w R :=
  fn_ok (fn := Tryz.f187) (c := Tryz.f187.body.getD .skip) (fuel := 4000) mixed tab_ok Tryz.func187 (by kernel_rfl) (by kernel_rfl) (Nat.le_of_ble_eq_true (by kernel_rfl)) (Eq.mpr (e_strings_Builder_Grow R a0 a1 w) h)
/-- slices.Backward[lapidary/whole.words,uint32] -/
def d_slices_Backward_whole_words_uint32 (R : Ending → World → Prop) (a0 : Value) (w : World) : Prop :=
  al a0.cells.toList 209 (fun t1 w =>
  R (.returned (.func (.func F.slices_Backward_whole_words_uint32_1) #[] #[t1])) w) w
theorem e_slices_Backward_whole_words_uint32 (R : Ending → World → Prop) (a0 : Value) (w : World) : vcFn P tab 4000 Tryz.f189.ntmps (Tryz.f189.body.getD .skip) Tryz.f189.results.toList [a0] R w = d_slices_Backward_whole_words_uint32 R a0 w := by kernel_rfl
theorem t_slices_Backward_whole_words_uint32 (R : Ending → World → Prop) (a0 : Value) (w : World) (h : d_slices_Backward_whole_words_uint32 R a0 w) : Tr P F.slices_Backward_whole_words_uint32 [a0] w R :=
  fn_ok (fn := Tryz.f189) (c := Tryz.f189.body.getD .skip) (fuel := 4000) mixed tab_ok Tryz.func189 (by kernel_rfl) (by kernel_rfl) (Nat.le_of_ble_eq_true (by kernel_rfl)) (Eq.mpr (e_slices_Backward_whole_words_uint32 R a0 w) h)
/-- slices.Clone[[]byte,byte] -/
def d_slices_Clone_byte_byte (R : Ending → World → Prop) (a0 : Value) (w : World) : Prop :=
  bN .eql (.slice 5) a0 (Value.slice none 0 0) (fun t4 w =>
  cnd t4
  (R (.returned (Value.slice none 0 0)) w)
  (bs 5 [.int .u8 0] 0 [] (fun t5 w =>
  ap 5 1 1 [.int .u8 0] t5 a0 (fun t7 w =>
  R (.returned t7) w) w) w)) w
theorem e_slices_Clone_byte_byte (R : Ending → World → Prop) (a0 : Value) (w : World) : vcFn P tab 4000 Tryz.f190.ntmps (Tryz.f190.body.getD .skip) Tryz.f190.results.toList [a0] R w = d_slices_Clone_byte_byte R a0 w := by kernel_rfl
theorem t_slices_Clone_byte_byte (R : Ending → World → Prop) (a0 : Value) (w : World) (h : d_slices_Clone_byte_byte R a0 w) : Tr P F.slices_Clone_byte_byte [a0] w R :=
  fn_ok (fn := Tryz.f190) (c := Tryz.f190.body.getD .skip) (fuel := 4000) mixed tab_ok Tryz.func190 (by kernel_rfl) (by kernel_rfl) (Nat.le_of_ble_eq_true (by kernel_rfl)) (Eq.mpr (e_slices_Clone_byte_byte R a0 w) h)
/-- (*lapidary/tree.parser).sent -/
def d_tree_parser_sent (R : Ending → World → Prop) (a0 a1 : Value) (w : World) : Prop :=
  al a1.cells.toList 50 (fun t3 w =>
  al [.int .i64 0, .string ⟨#[]⟩, .int .i64 0, .int .i64 0, .slice none 0 0, .slice none 0 0] 50 (fun t4 w =>
  cl P F.tree_parser_message [a0] (fun t7 w =>
  al [.int .i64 0, .string ⟨#[]⟩, .int .i64 0, .int .i64 0, .slice none 0 0, .slice none 0 0] 50 (fun t5 w =>
  st 6 t5 t7 (fun w =>
  drw w (fun w =>
  fa 1 t5 (fun t8 w =>
  ld t8 (fun t9 w =>
  fa 2 t5 (fun t10 w =>
  ld t10 (fun t11 w =>
  ldn 6 t3 (fun t12 w =>
  fa 5 t5 (fun t14 w =>
  ld t14 (fun t15 w =>
  bs 50 [.int .i64 0, .string ⟨#[]⟩, .int .i64 0, .int .i64 0, .slice none 0 0, .slice none 0 0] 1 [(0, 6, t12)] (fun t13 w =>
  rk false t14 t15
  (rk false t10 t11
  (rk false t8 t9
  (ap 50 6 88 [.int .i64 0, .string ⟨#[]⟩, .int .i64 0, .int .i64 0, .slice none 0 0, .slice none 0 0] t13 t15 (fun t16 w =>
  rk false t10 t11
  (rk false t8 t9
  (bd [.int .i64 0, .string ⟨#[]⟩, .int .i64 0, .int .i64 0, .slice none 0 0, .slice none 0 0] [(0, 1, (Value.int IntKind.i64 7)), (1, 1, t9), (2, 1, t11), (5, 1, t16)] (fun t17 w =>
  st 6 t4 t17 (fun w =>
  ldn 6 t4 (fun r0 w =>
  R (.returned r0) w) w) w) w) w) w) w) w) w) w) w) w) w) w) w) w) w) w)) w) w) (fun ch w => R (.panicked ch) w) w) w) w
theorem e_tree_parser_sent (R : Ending → World → Prop) (a0 a1 : Value) (w : World) : vcFn P tab 4000 Tryz.f191.ntmps (Tryz.f191.body.getD .skip) Tryz.f191.results.toList [a0, a1] R w = d_tree_parser_sent R a0 a1 w := by kernel_rfl
theorem t_tree_parser_sent (R : Ending → World → Prop) (a0 a1 : Value) (w : World) (h : d_tree_parser_sent R a0 a1 w) : Tr P F.tree_parser_sent [a0, a1] w R :=
  fn_ok (fn := Tryz.f191) (c := Tryz.f191.body.getD .skip) (fuel := 4000) mixed tab_ok Tryz.func191 (by kernel_rfl) (by kernel_rfl) (Nat.le_of_ble_eq_true (by kernel_rfl)) (Eq.mpr (e_tree_parser_sent R a0 a1 w) h)
/-- (*lapidary/tree.parser).primary -/
def d_tree_parser_primary (R : Ending → World → Prop) (a0 : Value) (w : World) : Prop :=
  al a0.cells.toList 70 (fun t1 w =>
  al [.int .i64 0, .string ⟨#[]⟩, .int .i64 0, .int .i64 0, .slice none 0 0, .slice none 0 0] 50 (fun t2 w =>
  ld t1 (fun t6 w =>
  nc t6 (fun t7 w =>
  fa 0 t7 (fun t8 w =>
  ld t8 (fun t9 w =>
  ia 3 t9 (Value.int IntKind.i64 0) (fun t10 w =>
  ldn 3 t10 (fun t11 w =>
  al [.int .i64 0, .string ⟨#[]⟩, .int .i64 0] 112 (fun t4 w =>
  st 3 t4 t11 (fun w =>
  fa 1 t4 (fun t12 w =>
  ld t12 (fun t13 w =>
  fa 2 t4 (fun t14 w =>
  ld t14 (fun t15 w =>
  bd [.int .i64 0, .string ⟨#[]⟩, .int .i64 0, .int .i64 0, .slice none 0 0, .slice none 0 0] [(1, 1, t13), (2, 1, t15)] (fun t16 w =>
  al [.int .i64 0, .string ⟨#[]⟩, .int .i64 0, .int .i64 0, .slice none 0 0, .slice none 0 0] 50 (fun t5 w =>
  st 6 t5 t16 (fun w =>
  jn 1 (fun x3 w =>
  ld t1 (fun t47 w =>
  cl P F.tree_parser_take [t47] (fun t48 w =>
  ldn 6 t5 (fun t49 w =>
  st 6 t2 t49 (fun w =>
  ldn 6 t2 (fun r0 w =>
  R (.returned (.tuple #[r0, (.bool true)])) w) w) w) w) (fun ch w => R (.panicked ch) w) w) w) (fun k1 =>
  fa 0 t4 (fun t17 w =>
  ld t17 (fun t18 w =>
  bI .eql .i64 t18 (Value.int IntKind.i64 1) (fun t22 w =>
  cnd t22
  (fa 0 t5 (fun t23 w =>
  st 1 t23 (Value.int IntKind.i64 5) (fun w =>
  sm [(t1, t1), (t2, t2), (t5, t5)] [] [] (k1 (.bool false) w)) w) w)
  (bI .eql .i64 t18 (Value.int IntKind.i64 4) (fun t25 w =>
  cnd t25
  (fa 0 t5 (fun t26 w =>
  st 1 t26 (Value.int IntKind.i64 1) (fun w =>
  sm [(t1, t1), (t2, t2), (t5, t5)] [] [] (k1 (.bool false) w)) w) w)
  (bI .eql .i64 t18 (Value.int IntKind.i64 5) (fun t28 w =>
  cnd t28
  (fa 0 t5 (fun t29 w =>
  st 1 t29 (Value.int IntKind.i64 2) (fun w =>
  sm [(t1, t1), (t2, t2), (t5, t5)] [] [] (k1 (.bool false) w)) w) w)
  (bI .eql .i64 t18 (Value.int IntKind.i64 6) (fun t31 w =>
  cnd t31
  (fa 0 t5 (fun t32 w =>
  st 1 t32 (Value.int IntKind.i64 3) (fun w =>
  sm [(t1, t1), (t2, t2), (t5, t5)] [] [] (k1 (.bool false) w)) w) w)
  (bI .eql .i64 t18 (Value.int IntKind.i64 17) (fun t34 w =>
  cnd t34
  (ld t1 (fun t35 w =>
  cl P F.tree_parser_list [t35] (fun t36 w =>
  st 6 t2 t36 (fun w =>
  ldn 6 t2 (fun r0 w =>
  R (.returned (.tuple #[r0, (.bool true)])) w) w) w) (fun ch w => R (.panicked ch) w) w) w)
  (bI .eql .i64 t18 (Value.int IntKind.i64 10) (fun t38 w =>
  cnd t38
  (ld t1 (fun t39 w =>
  cl P F.tree_parser_block [t39] (fun t40 w =>
  st 6 t2 t40 (fun w =>
  ldn 6 t2 (fun r0 w =>
  R (.returned (.tuple #[r0, (.bool true)])) w) w) w) (fun ch w => R (.panicked ch) w) w) w)
  (bI .eql .i64 t18 (Value.int IntKind.i64 8) (fun t42 w =>
  cnd t42
  (ld t1 (fun t43 w =>
  cl P F.tree_parser_within [t43, (.func (.func F.tree_parser_primary_1) #[] #[t1, t5])] (fun t45 w =>
  ldn 6 t5 (fun t46 w =>
  st 6 t2 t46 (fun w =>
  ldn 6 t2 (fun r0 w =>
  R (.returned (.tuple #[r0, (.bool false)])) w) w) w) w) (fun ch w => R (.panicked ch) w) w) w)
  (ld t1 (fun t19 w =>
  cl P F.tree_parser_bad [t19, (Value.int IntKind.i64 20)] (fun t20 w =>
  sm [(t1, t1), (t2, t2), (t5, t5)] [] [] (k1 (.bool false) w)) (fun ch w => R (.panicked ch) w) w) w)) w)) w)) w)) w)) w)) w)) w) w) w)) w) w) w) w) w) w) w) w) w) w) w) w) w) w) w) w) w
theorem e_tree_parser_primary (R : Ending → World → Prop) (a0 : Value) (w : World) : vcFn P tab 4000 Tryz.f192.ntmps (Tryz.f192.body.getD .skip) Tryz.f192.results.toList [a0] R w = d_tree_parser_primary R a0 w := by kernel_rfl
theorem t_tree_parser_primary (R : Ending → World → Prop) (a0 : Value) (w : World) (h : d_tree_parser_primary R a0 w) : Tr P F.tree_parser_primary [a0] w R :=
  fn_ok (fn := Tryz.f192) (c := Tryz.f192.body.getD .skip) (fuel := 4000) mixed tab_ok Tryz.func192 (by kernel_rfl) (by kernel_rfl) (Nat.le_of_ble_eq_true (by kernel_rfl)) (Eq.mpr (e_tree_parser_primary R a0 w) h)
/-- strings.Count -/
def d_strings_Count (R : Ending → World → Prop) (a0 a1 : Value) (w : World) : Prop :=
  lnS a1 (fun t8 w =>
  bI .eql .i64 t8 (Value.int IntKind.i64 0) (fun t9 w =>
  cnd t9
  (cl P F.unicode_utf8_RuneCountInString [a0] (fun t11 w =>
  bI .add .i64 t11 (Value.int IntKind.i64 1) (fun t12 w =>
  R (.returned t12) w) w) (fun ch w => R (.panicked ch) w) w)
  (lnS a1 (fun t14 w =>
  bI .eql .i64 t14 (Value.int IntKind.i64 1) (fun t15 w =>
  cnd t15
  (ix a1 (Value.int IntKind.i64 0) (fun t18 w =>
  cl P F.internal_bytealg_CountString [a0, t18] (fun t19 w =>
  R (.returned t19) w) (fun ch w => R (.panicked ch) w) w) w)
  (lp 3 [a0, (Value.int IntKind.i64 0), (Value.int IntKind.i64 0)] (fun r1 x0 x4 x5 w =>
  cl P F.strings_Index [x0, a1] (fun t22 w =>
  bI .eql .i64 t22 (Value.int IntKind.i64 (-1)) (fun t24 w =>
  cnd t24
  (R (.returned x5) w)
  (bI .add .i64 x5 (Value.int IntKind.i64 1) (fun t27 w =>
  lnS a1 (fun t31 w =>
  bI .add .i64 t22 t31 (fun t32 w =>
  slS x0 (some t32) none (fun t33 w =>
  sm [(a1, a1)] [] [] (r1 [t33, x4, t27] w)) w) w) w) w)) w) (fun ch w => R (.panicked ch) w) w) w)) w) w)) w) w
theorem e_strings_Count (R : Ending → World → Prop) (a0 a1 : Value) (w : World) : vcFn P tab 4000 Tryz.f193.ntmps (Tryz.f193.body.getD .skip) Tryz.f193.results.toList [a0, a1] R w = d_strings_Count R a0 a1 w := by kernel_rfl
theorem t_strings_Count (R : Ending → World → Prop) (a0 a1 : Value) (w : World) (h : d_strings_Count R a0 a1 w) : Tr P F.strings_Count [a0, a1] w R :=
  fn_ok (fn := Tryz.f193) (c := Tryz.f193.body.getD .skip) (fuel := 4000) mixed tab_ok Tryz.func193 (by kernel_rfl) (by kernel_rfl) (Nat.le_of_ble_eq_true (by kernel_rfl)) (Eq.mpr (e_strings_Count R a0 a1 w) h)
/-- strings.Index -/
def d_strings_Index (R : Ending → World → Prop) (a0 a1 : Value) (w : World) : Prop :=
  cl P F.internal_stringslite_Index [a0, a1] (fun t7 w =>
  R (.returned t7) w) (fun ch w => R (.panicked ch) w) w
theorem e_strings_Index (R : Ending → World → Prop) (a0 a1 : Value) (w : World) : vcFn P tab 4000 Tryz.f194.ntmps (Tryz.f194.body.getD .skip) Tryz.f194.results.toList [a0, a1] R w = d_strings_Index R a0 a1 w := by kernel_rfl
theorem t_strings_Index (R : Ending → World → Prop) (a0 a1 : Value) (w : World) (h : d_strings_Index R a0 a1 w) : Tr P F.strings_Index [a0, a1] w R :=
  fn_ok (fn := Tryz.f194) (c := Tryz.f194.body.getD .skip) (fuel := 4000) mixed tab_ok Tryz.func194 (by kernel_rfl) (by kernel_rfl) (Nat.le_of_ble_eq_true (by kernel_rfl)) (Eq.mpr (e_strings_Index R a0 a1 w) h)
/-- (*strings.Builder).grow -/
def d_strings_Builder_grow (R : Ending → World → Prop) (a0 a1 : Value) (w : World) : Prop :=
  drw w (fun w =>
  nc a0 (fun t6 w =>
  fa 1 t6 (fun t7 w =>
  ld t7 (fun t8 w =>
  cpL t8 (fun t9 w =>
  bI .mul .i64 (Value.int IntKind.i64 2) t9 (fun t10 w =>
  bI .add .i64 t10 a1 (fun t12 w =>
  nc a0 (fun t15 w =>
  fa 1 t15 (fun t16 w =>
  ld t16 (fun t17 w =>
  lnL t17 (fun t18 w =>
  cl P F.internal_bytealg_MakeNoZero [t12] (fun t13 w =>
  rk false t16 t17
  (slL 1 t13 none (some t18) none (fun t19 w =>
  nc a0 (fun t22 w =>
  fa 1 t22 (fun t23 w =>
  ld t23 (fun t24 w =>
  rx P (Builtin.copy_ #[176, 176] 3 #[t19, t24]) (fun t25 w =>
  nc a0 (fun t28 w =>
  fa 1 t28 (fun t29 w =>
  st 1 t29 t19 (fun w =>
  R (.returned (.tuple #[])) w) w) w) w) w) w) w) w) w) w) (fun ch w => R (.panicked ch) w) w) w) w) w) w) w) w) w) w) w) w)
theorem e_strings_Builder_grow (R : Ending → World → Prop) (a0 a1 : Value) (w : World) : vcFn P tab 4000 Tryz.f196.ntmps (Tryz.f196.body.getD .skip) Tryz.f196.results.toList [a0, a1] R w = d_strings_Builder_grow R a0 a1 w := by kernel_rfl
theorem t_strings_Builder_grow (R : Ending → World → Prop) (a0 a1 : Value) (w : World) (h : d_strings_Builder_grow R a0 a1 w) : Tr P F.strings_Builder_grow [a0, a1] w R :=
  fn_ok (fn := Tryz.f196) (c := Tryz.f196.body.getD .skip) (fuel := 4000) mixed tab_ok Tryz.func196 (by kernel_rfl) (by kernel_rfl) (Nat.le_of_ble_eq_true (by kernel_rfl)) (Eq.mpr (e_strings_Builder_grow R a0 a1 w) h)
/-- slices.Backward[lapidary/whole.words,uint32]$1 -/
def d_slices_Backward_whole_words_uint32_1 (R : Ending → World → Prop) (a0 a1 : Value) (w : World) : Prop :=
  ld a1 (fun t4 w =>
  lnL t4 (fun t5 w =>
  bI .sub .i64 t5 (Value.int IntKind.i64 1) (fun t6 w =>
  lp 1 [t6] (fun r1 x3 w =>
  bI .geq .i64 x3 (Value.int IntKind.i64 0) (fun t8 w =>
  cnd t8
  (ld a1 (fun t13 w =>
  ia 1 t13 x3 (fun t15 w =>
  ld t15 (fun t16 w =>
  clv P a0 [x3, t16] (fun t17 w =>
  uN t17 (fun t18 w =>
  cnd t18
  (R (.returned (.tuple #[])) w)
  (bI .sub .i64 x3 (Value.int IntKind.i64 1) (fun t10 w =>
  sm [(a0, a0), (a1, a1)] [] [] (r1 [t10] w)) w)) w) (fun ch w => R (.panicked ch) w) w) w) w) w)
  (R (.returned (.tuple #[])) w)) w) w) w) w) w
theorem e_slices_Backward_whole_words_uint32_1 (R : Ending → World → Prop) (a0 a1 : Value) (w : World) : vcFn P tab 4000 Tryz.f199.ntmps (Tryz.f199.body.getD .skip) Tryz.f199.results.toList [a0, a1] R w = d_slices_Backward_whole_words_uint32_1 R a0 a1 w := by kernel_rfl
theorem t_slices_Backward_whole_words_uint32_1 (R : Ending → World → Prop) (a0 a1 : Value) (w : World) (h : d_slices_Backward_whole_words_uint32_1 R a0 a1 w) : Tr P F.slices_Backward_whole_words_uint32_1 [a0, a1] w R :=
  fn_ok (fn := Tryz.f199) (c := Tryz.f199.body.getD .skip) (fuel := 4000) mixed tab_ok Tryz.func199 (by kernel_rfl) (by kernel_rfl) (Nat.le_of_ble_eq_true (by kernel_rfl)) (Eq.mpr (e_slices_Backward_whole_words_uint32_1 R a0 a1 w) h)
/-- (*lapidary/tree.parser).list -/
def d_tree_parser_list (R : Ending → World → Prop) (a0 : Value) (w : World) : Prop :=
  al a0.cells.toList 70 (fun t1 w =>
  al [.int .i64 0, .string ⟨#[]⟩, .int .i64 0, .int .i64 0, .slice none 0 0, .slice none 0 0] 50 (fun t2 w =>
  ld t1 (fun t4 w =>
  nc t4 (fun t5 w =>
  fa 0 t5 (fun t6 w =>
  ld t6 (fun t7 w =>
  ia 3 t7 (Value.int IntKind.i64 0) (fun t8 w =>
  fa 2 t8 (fun t9 w =>
  ld t9 (fun t10 w =>
  bd [.int .i64 0, .string ⟨#[]⟩, .int .i64 0, .int .i64 0, .slice none 0 0, .slice none 0 0] [(0, 1, (Value.int IntKind.i64 4)), (2, 1, t10)] (fun t11 w =>
  al [.int .i64 0, .string ⟨#[]⟩, .int .i64 0, .int .i64 0, .slice none 0 0, .slice none 0 0] 50 (fun t3 w =>
  st 6 t3 t11 (fun w =>
  ld t1 (fun t12 w =>
  cl P F.tree_parser_within [t12, (.func (.func F.tree_parser_list_1) #[] #[t1, t3])] (fun t14 w =>
  ldn 6 t3 (fun t15 w =>
  st 6 t2 t15 (fun w =>
  ldn 6 t2 (fun r0 w =>
  R (.returned r0) w) w) w) w) (fun ch w => R (.panicked ch) w) w) w) w) w) w) w) w) w) w) w) w) w) w) w
theorem e_tree_parser_list (R : Ending → World → Prop) (a0 : Value) (w : World) : vcFn P tab 4000 Tryz.f200.ntmps (Tryz.f200.body.getD .skip) Tryz.f200.results.toList [a0] R w = d_tree_parser_list R a0 w := by kernel_rfl
theorem t_tree_parser_list (R : Ending → World → Prop) (a0 : Value) (w : World) (h : d_tree_parser_list R a0 w) : Tr P F.tree_parser_list [a0] w R :=
  fn_ok (fn := Tryz.f200) (c := Tryz.f200.body.getD .skip) (fuel := 4000) mixed tab_ok Tryz.func200 (by kernel_rfl) (by kernel_rfl) (Nat.le_of_ble_eq_true (by kernel_rfl)) (Eq.mpr (e_tree_parser_list R a0 w) h)
/-- (*lapidary/tree.parser).block -/
def d_tree_parser_block (R : Ending → World → Prop) (a0 : Value) (w : World) : Prop :=
  al a0.cells.toList 70 (fun t1 w =>
  al [.int .i64 0, .string ⟨#[]⟩, .int .i64 0, .int .i64 0, .slice none 0 0, .slice none 0 0] 50 (fun t2 w =>
  ld t1 (fun t4 w =>
  nc t4 (fun t5 w =>
  fa 0 t5 (fun t6 w =>
  ld t6 (fun t7 w =>
  ia 3 t7 (Value.int IntKind.i64 0) (fun t8 w =>
  fa 2 t8 (fun t9 w =>
  ld t9 (fun t10 w =>
  bd [.int .i64 0, .string ⟨#[]⟩, .int .i64 0, .int .i64 0, .slice none 0 0, .slice none 0 0] [(0, 1, (Value.int IntKind.i64 10)), (2, 1, t10)] (fun t11 w =>
  al [.int .i64 0, .string ⟨#[]⟩, .int .i64 0, .int .i64 0, .slice none 0 0, .slice none 0 0] 50 (fun t3 w =>
  st 6 t3 t11 (fun w =>
  ld t1 (fun t12 w =>
  cl P F.tree_parser_within [t12, (.func (.func F.tree_parser_block_1) #[] #[t1, t3])] (fun t14 w =>
  ldn 6 t3 (fun t15 w =>
  st 6 t2 t15 (fun w =>
  ldn 6 t2 (fun r0 w =>
  R (.returned r0) w) w) w) w) (fun ch w => R (.panicked ch) w) w) w) w) w) w) w) w) w) w) w) w) w) w) w
theorem e_tree_parser_block (R : Ending → World → Prop) (a0 : Value) (w : World) : vcFn P tab 4000 Tryz.f201.ntmps (Tryz.f201.body.getD .skip) Tryz.f201.results.toList [a0] R w = d_tree_parser_block R a0 w := by kernel_rfl
theorem t_tree_parser_block (R : Ending → World → Prop) (a0 : Value) (w : World) (h : d_tree_parser_block R a0 w) : Tr P F.tree_parser_block [a0] w R :=
  fn_ok (fn := Tryz.f201) (c := Tryz.f201.body.getD .skip) (fuel := 4000) mixed tab_ok Tryz.func201 (by kernel_rfl) (by kernel_rfl) (Nat.le_of_ble_eq_true (by kernel_rfl)) (Eq.mpr (e_tree_parser_block R a0 w) h)
/-- (*lapidary/tree.parser).primary$1 -/
def d_tree_parser_primary_1 (R : Ending → World → Prop) (a0 a1 : Value) (w : World) : Prop :=
  ld a0 (fun t2 w =>
  cl P F.tree_parser_expression [t2] (fun t3 w =>
  st 6 a1 t3 (fun w =>
  ld a0 (fun t4 w =>
  cl P F.tree_parser_need [t4, (Value.int IntKind.i64 9)] (fun t5 w =>
  R (.returned (.tuple #[])) w) (fun ch w => R (.panicked ch) w) w) w) w) (fun ch w => R (.panicked ch) w) w) w
theorem e_tree_parser_primary_1 (R : Ending → World → Prop) (a0 a1 : Value) (w : World) : vcFn P tab 4000 Tryz.f202.ntmps (Tryz.f202.body.getD .skip) Tryz.f202.results.toList [a0, a1] R w = d_tree_parser_primary_1 R a0 a1 w := by kernel_rfl
theorem t_tree_parser_primary_1 (R : Ending → World → Prop) (a0 a1 : Value) (w : World) (h : d_tree_parser_primary_1 R a0 a1 w) : Tr P F.tree_parser_primary_1 [a0, a1] w R :=
  fn_ok (fn := Tryz.f202) (c := Tryz.f202.body.getD .skip) (fuel := 4000) mixed tab_ok Tryz.func202 (by kernel_rfl) (by kernel_rfl) (Nat.le_of_ble_eq_true (by kernel_rfl)) (Eq.mpr (e_tree_parser_primary_1 R a0 a1 w) h)
/-- internal/stringslite.Index -/
def d_internal_stringslite_Index (R : Ending → World → Prop) (a0 a1 : Value) (w : World) : Prop :=
  lnS a1 (fun t15 w =>
  jn 1 (fun x4 w =>
  ix a1 (Value.int IntKind.i64 0) (fun t49 w =>
  ix a1 (Value.int IntKind.i64 1) (fun t51 w =>
  lnS a0 (fun t53 w =>
  bI .sub .i64 t53 t15 (fun t55 w =>
  bI .add .i64 t55 (Value.int IntKind.i64 1) (fun t56 w =>
  lp 3 [x4, (Value.int IntKind.i64 0), (Value.int IntKind.i64 0)] (fun r2 x4 x8 x10 w =>
  bI .lss .i64 x8 t56 (fun t59 w =>
  cnd t59
  (jn 2 (fun x4 x8 w =>
  jn 9 (fun x4 x85 x86 x87 x88 x89 x90 x91 x92 w =>
  bI .add .i64 x8 (Value.int IntKind.i64 1) (fun t96 w =>
  bI .add .i64 x10 (Value.int IntKind.i64 1) (fun t98 w =>
  jn 5 (fun x103 x104 x105 x106 x107 w =>
  cnd x107
  (slS a0 (some t96) none (fun t110 w =>
  cl P F.internal_bytealg_IndexString [t110, a1] (fun t112 w =>
  bI .geq .i64 t112 (Value.int IntKind.i64 0) (fun t114 w =>
  cnd t114
  (bI .add .i64 t112 t96 (fun t117 w =>
  R (.returned t117) w) w)
  (R (.returned (Value.int IntKind.i64 (-1))) w)) w) (fun ch w => R (.panicked ch) w) w) w)
  (jn 9 (fun x122 x123 x124 x125 x126 x129 x130 x131 x132 w =>
  cnd x132
  (slS a0 (some t96) none (fun t135 w =>
  cl P F.internal_bytealg_IndexRabinKarp_string [t135, a1] (fun t137 w =>
  bI .lss .i64 t137 (Value.int IntKind.i64 0) (fun t139 w =>
  cnd t139
  (R (.returned (Value.int IntKind.i64 (-1))) w)
  (bI .add .i64 t96 t137 (fun t142 w =>
  R (.returned t142) w) w)) w) (fun ch w => R (.panicked ch) w) w) w)
  (sm [(a0, a0), (a1, a1), (t15, t15), (t49, t49), (t51, t51), (t56, t56)] [] [] (r2 [x4, t96, t98] w))) (fun k6 =>
  ld (ptr 0 0) (fun t119 w =>
  bI .gtr .i64 t15 t119 (fun t120 w =>
  cnd t120
  (bH .shr .i64 t96 (Value.int IntKind.u64 4) (fun t124 w =>
  bI .add .i64 (Value.int IntKind.i64 4) t124 (fun t125 w =>
  bI .geq .i64 t98 t125 (fun t126 w =>
  cnd t126
  (bI .lss .i64 t96 t56 (fun t131 w =>
  sm [(a0, a0), (a1, a1), (x4, x4), (t15, t15), (t49, t49), (t51, t51), (t96, t96), (t56, t56), (t98, t98), (x85, x85), (x86, x86), (x87, x87), (x88, x88), (x89, x89), (x90, x90), (x91, x91), (x92, x92), (x103, x103), (x104, x104), (x105, x105), (x106, x106)] [] [] (k6 t98 t96 t124 t125 t126 t96 t56 t131 t131 w)) w)
  (sm [(a0, a0), (a1, a1), (x4, x4), (t15, t15), (t49, t49), (t51, t51), (t96, t96), (t56, t56), (t98, t98), (x85, x85), (x86, x86), (x87, x87), (x88, x88), (x89, x89), (x90, x90), (x91, x91), (x92, x92), (x103, x103), (x104, x104), (x105, x105), (x106, x106)] [] [] (k6 t98 t96 t124 t125 t126 undef undef undef (.bool false) w))) w) w) w)
  (sm [(a0, a0), (a1, a1), (x4, x4), (t15, t15), (t49, t49), (t51, t51), (t96, t96), (t56, t56), (t98, t98), (x85, x85), (x86, x86), (x87, x87), (x88, x88), (x89, x89), (x90, x90), (x91, x91), (x92, x92), (x103, x103), (x104, x104), (x105, x105), (x106, x106)] [] [] (k6 undef undef undef undef undef undef undef undef (.bool false) w))) w) w))) (fun k5 =>
  ld (ptr 0 0) (fun t100 w =>
  bI .leq .i64 t15 t100 (fun t101 w =>
  cnd t101
  (cl P F.internal_bytealg_Cutover [t96] (fun t105 w =>
  bI .gtr .i64 t98 t105 (fun t106 w =>
  sm [(a0, a0), (a1, a1), (x4, x4), (t15, t15), (t49, t49), (t51, t51), (t96, t96), (t56, t56), (t98, t98), (x85, x85), (x86, x86), (x87, x87), (x88, x88), (x89, x89), (x90, x90), (x91, x91), (x92, x92)] [] [] (k5 t98 t96 t105 t106 t106 w)) w) (fun ch w => R (.panicked ch) w) w)
  (sm [(a0, a0), (a1, a1), (x4, x4), (t15, t15), (t49, t49), (t51, t51), (t96, t96), (t56, t56), (t98, t98), (x85, x85), (x86, x86), (x87, x87), (x88, x88), (x89, x89), (x90, x90), (x91, x91), (x92, x92)] [] [] (k5 undef undef undef undef (.bool false) w))) w) w)) w) w) (fun k4 =>
  bI .add .i64 x8 (Value.int IntKind.i64 1) (fun t80 w =>
  ix a0 t80 (fun t81 w =>
  bI .eql .u8 t81 t51 (fun t83 w =>
  cnd t83
  (bI .add .i64 x8 t15 (fun t89 w =>
  slS a0 (some x8) (some t89) (fun t90 w =>
  bS .eql t90 a1 (fun t92 w =>
  cnd t92
  (R (.returned x8) w)
  (sm [(a0, a0), (a1, a1), (t15, t15), (t49, t49), (t51, t51), (x8, x8), (t56, t56), (x10, x10)] [] [] (k4 x4 a0 x8 x8 t15 t89 t90 a1 t92 w))) w) w) w)
  (sm [(a0, a0), (a1, a1), (t15, t15), (t49, t49), (t51, t51), (x8, x8), (t56, t56), (x10, x10)] [] [] (k4 x4 undef undef undef undef undef undef undef undef w))) w) w) w)) (fun k3 =>
  ix a0 x8 (fun t62 w =>
  bI .neq .u8 t62 t49 (fun t64 w =>
  cnd t64
  (bI .add .i64 x8 (Value.int IntKind.i64 1) (fun t67 w =>
  slS a0 (some t67) (some t56) (fun t69 w =>
  cl P F.internal_stringslite_IndexByte [t69, t49] (fun t71 w =>
  bI .lss .i64 t71 (Value.int IntKind.i64 0) (fun t73 w =>
  cnd t73
  (R (.returned (Value.int IntKind.i64 (-1))) w)
  (bI .add .i64 t71 (Value.int IntKind.i64 1) (fun t76 w =>
  bI .add .i64 x8 t76 (fun t77 w =>
  sm [(a0, a0), (a1, a1), (t15, t15), (t49, t49), (t51, t51), (t56, t56), (x10, x10)] [] [] (k3 x4 t77 w)) w) w)) w) (fun ch w => R (.panicked ch) w) w) w) w)
  (sm [(a0, a0), (a1, a1), (t15, t15), (t49, t49), (t51, t51), (t56, t56), (x10, x10)] [] [] (k3 x4 x8 w))) w) w))
  (R (.returned (Value.int IntKind.i64 (-1))) w)) w) w) w) w) w) w) w) (fun k1 =>
  jn 1 (fun x16 w =>
  cnd x16
  (R (.returned (Value.int IntKind.i64 0)) w)
  (bI .eql .i64 t15 (Value.int IntKind.i64 1) (fun t26 w =>
  cnd t26
  (ix a1 (Value.int IntKind.i64 0) (fun t29 w =>
  cl P F.internal_stringslite_IndexByte [a0, t29] (fun t30 w =>
  R (.returned t30) w) (fun ch w => R (.panicked ch) w) w) w)
  (lnS a0 (fun t34 w =>
  bI .geq .i64 t15 t34 (fun t35 w =>
  cnd t35
  (R (.returned (Value.int IntKind.i64 (-1))) w)
  (jn 1 (fun x36 w =>
  cnd x36
  (cl P F.internal_bytealg_IndexString [a0, a1] (fun t47 w =>
  R (.returned t47) w) (fun ch w => R (.panicked ch) w) w)
  (sm [(a0, a0), (a1, a1), (t15, t15)] [] [] (k1 (Value.int IntKind.i64 0) w))) (fun k8 =>
  ld (ptr 0 0) (fun t38 w =>
  bI .leq .i64 t15 t38 (fun t39 w =>
  cnd t39
  (lnS a0 (fun t42 w =>
  bI .leq .i64 t42 (Value.int IntKind.i64 64) (fun t43 w =>
  sm [(a0, a0), (a1, a1), ((Value.int IntKind.i64 0), (Value.int IntKind.i64 0)), (t15, t15)] [] [] (k8 t43 w)) w) w)
  (sm [(a0, a0), (a1, a1), ((Value.int IntKind.i64 0), (Value.int IntKind.i64 0)), (t15, t15)] [] [] (k8 (.bool false) w))) w) w))) w) w)) w)) (fun k7 =>
  bI .eql .i64 t15 (Value.int IntKind.i64 0) (fun t18 w =>
  cnd t18
  (sm [(a0, a0), (a1, a1), ((Value.int IntKind.i64 0), (Value.int IntKind.i64 0)), (t15, t15)] [] [] (k7 (.bool true) w))
  (bS .eql a1 a0 (fun t22 w =>
  sm [(a0, a0), (a1, a1), ((Value.int IntKind.i64 0), (Value.int IntKind.i64 0)), (t15, t15)] [] [] (k7 t22 w)) w)) w))) w
theorem e_internal_stringslite_Index (R : Ending → World → Prop) (a0 a1 : Value) (w : World) : vcFn P tab 4000 Tryz.f205.ntmps (Tryz.f205.body.getD .skip) Tryz.f205.results.toList [a0, a1] R w = d_internal_stringslite_Index R a0 a1 w := by kernel_rfl
theorem t_internal_stringslite_Index (R : Ending → World → Prop) (a0 a1 : Value) (w : World) (h : d_internal_stringslite_Index R a0 a1 w) : Tr P F.internal_stringslite_Index [a0, a1] w R :=
  fn_ok (fn := Tryz.f205) (c := Tryz.f205.body.getD .skip) (fuel := 4000) mixed tab_ok Tryz.func205 (by kernel_rfl) (by kernel_rfl) (Nat.le_of_ble_eq_true (by kernel_rfl)) (Eq.mpr (e_internal_stringslite_Index R a0 a1 w) h)
/-- (*lapidary/tree.parser).list$1 -/
def d_tree_parser_list_1 (R : Ending → World → Prop) (a0 a1 : Value) (w : World) : Prop :=
  lp 0 [] (fun r1 w =>
  ld a0 (fun t2 w =>
  cl P F.tree_parser_kind [t2] (fun t3 w =>
  bI .neq .i64 t3 (Value.int IntKind.i64 9) (fun t4 w =>
  cnd t4
  (drw w (fun w =>
  ((fa 5 a1 (fun t5 w =>
  ld t5 (fun t6 w =>
  ld a0 (fun t7 w =>
  lnL t6 (fun t9 w =>
  cl P F.tree_parser_element [t7] (fun t8 w =>
  rk false t5 t6
  (bs 50 [.int .i64 0, .string ⟨#[]⟩, .int .i64 0, .int .i64 0, .slice none 0 0, .slice none 0 0] 1 [(0, 6, (Value.agg #[(Value.int IntKind.i64 0), (Value.string { data := #[] }), (Value.int IntKind.i64 0), (Value.int IntKind.i64 0), (Value.slice none 0 0), (Value.slice none 0 0)]))] (fun t10 w =>
  rk false t5 t6
  (ap 50 6 88 [.int .i64 0, .string ⟨#[]⟩, .int .i64 0, .int .i64 0, .slice none 0 0, .slice none 0 0] t6 t10 (fun t11 w =>
  ia 6 t11 t9 (fun t12 w =>
  fa 5 a1 (fun t13 w =>
  st 6 t12 t8 (fun w =>
  st 1 t13 t11 (fun w =>
  sm [(a0, a0), (a1, a1)] [] [] (r1 [] w)) w) w) w) w) w) w) w) w) (fun ch w => R (.panicked ch) w) w) w) w) w) w) ∧
  (fa 5 a1 (fun t5 w =>
  ld t5 (fun t6 w =>
  ld a0 (fun t7 w =>
  lnL t6 (fun t9 w =>
  cl P F.tree_parser_element [t7] (fun t8 w =>
  rk false t5 t6
  (bs 50 [.int .i64 0, .string ⟨#[]⟩, .int .i64 0, .int .i64 0, .slice none 0 0, .slice none 0 0] 1 [(0, 6, (Value.agg #[(Value.int IntKind.i64 0), (Value.string { data := #[] }), (Value.int IntKind.i64 0), (Value.int IntKind.i64 0), (Value.slice none 0 0), (Value.slice none 0 0)]))] (fun t10 w =>
  rk false t5 t6
  (ap 50 6 88 [.int .i64 0, .string ⟨#[]⟩, .int .i64 0, .int .i64 0, .slice none 0 0, .slice none 0 0] t6 t10 (fun t11 w =>
  ia 6 t11 t9 (fun t12 w =>
  fa 5 a1 (fun t13 w =>
  st 1 t13 t11 (fun w =>
  st 6 t12 t8 (fun w =>
  sm [(a0, a0), (a1, a1)] [] [] (r1 [] w)) w) w) w) w) w) w) w) w) (fun ch w => R (.panicked ch) w) w) w) w) w) w)) ∧
  ((fa 5 a1 (fun t5 w =>
  ld t5 (fun t6 w =>
  ld a0 (fun t7 w =>
  lnL t6 (fun t9 w =>
  bs 50 [.int .i64 0, .string ⟨#[]⟩, .int .i64 0, .int .i64 0, .slice none 0 0, .slice none 0 0] 1 [(0, 6, (Value.agg #[(Value.int IntKind.i64 0), (Value.string { data := #[] }), (Value.int IntKind.i64 0), (Value.int IntKind.i64 0), (Value.slice none 0 0), (Value.slice none 0 0)]))] (fun t10 w =>
  rk false a0 t7
  (rk false t5 t6
  (cl P F.tree_parser_element [t7] (fun t8 w =>
  rk false t5 t6
  (ap 50 6 88 [.int .i64 0, .string ⟨#[]⟩, .int .i64 0, .int .i64 0, .slice none 0 0, .slice none 0 0] t6 t10 (fun t11 w =>
  ia 6 t11 t9 (fun t12 w =>
  fa 5 a1 (fun t13 w =>
  st 6 t12 t8 (fun w =>
  st 1 t13 t11 (fun w =>
  sm [(a0, a0), (a1, a1)] [] [] (r1 [] w)) w) w) w) w) w) w) (fun ch w => R (.panicked ch) w) w) w) w) w) w) w) w) w) ∧
  (fa 5 a1 (fun t5 w =>
  ld t5 (fun t6 w =>
  ld a0 (fun t7 w =>
  lnL t6 (fun t9 w =>
  bs 50 [.int .i64 0, .string ⟨#[]⟩, .int .i64 0, .int .i64 0, .slice none 0 0, .slice none 0 0] 1 [(0, 6, (Value.agg #[(Value.int IntKind.i64 0), (Value.string { data := #[] }), (Value.int IntKind.i64 0), (Value.int IntKind.i64 0), (Value.slice none 0 0), (Value.slice none 0 0)]))] (fun t10 w =>
  rk false a0 t7
  (rk false t5 t6
  (cl P F.tree_parser_element [t7] (fun t8 w =>
  rk false t5 t6
  (ap 50 6 88 [.int .i64 0, .string ⟨#[]⟩, .int .i64 0, .int .i64 0, .slice none 0 0, .slice none 0 0] t6 t10 (fun t11 w =>
  ia 6 t11 t9 (fun t12 w =>
  fa 5 a1 (fun t13 w =>
  st 1 t13 t11 (fun w =>
  st 6 t12 t8 (fun w =>
  sm [(a0, a0), (a1, a1)] [] [] (r1 [] w)) w) w) w) w) w) w) (fun ch w => R (.panicked ch) w) w) w) w) w) w) w) w) w))))
  (ld a0 (fun t14 w =>
  cl P F.tree_parser_take [t14] (fun t15 w =>
  R (.returned (.tuple #[])) w) (fun ch w => R (.panicked ch) w) w) w)) w) (fun ch w => R (.panicked ch) w) w) w) w
theorem e_tree_parser_list_1 (R : Ending → World → Prop) (a0 a1 : Value) (w : World) : vcFn P tab 4000 Tryz.f208.ntmps (Tryz.f208.body.getD .skip) Tryz.f208.results.toList [a0, a1] R w = d_tree_parser_list_1 R a0 a1 w := by kernel_rfl
theorem t_tree_parser_list_1 (R : Ending → World → Prop) (a0 a1 : Value) (w : World) (h : d_tree_parser_list_1 R a0 a1 w) : Tr P F.tree_parser_list_1 [a0, a1] w R :=
  fn_ok (fn := Tryz.f208) (c := Tryz.f208.body.getD .skip) (fuel := 4000) mixed tab_ok Tryz.func208 (by kernel_rfl) (by kernel_rfl) (Nat.le_of_ble_eq_true (by kernel_rfl)) (Eq.mpr (e_tree_parser_list_1 R a0 a1 w) h)
/-- (*lapidary/tree.parser).element -/
def d_tree_parser_element (R : Ending → World → Prop) (a0 : Value) (w : World) : Prop :=
  al [.int .i64 0, .string ⟨#[]⟩, .int .i64 0, .int .i64 0, .slice none 0 0, .slice none 0 0] 50 (fun t2 w =>
  nc a0 (fun t6 w =>
  fa 0 t6 (fun t7 w =>
  ld t7 (fun t8 w =>
  ia 3 t8 (Value.int IntKind.i64 0) (fun t9 w =>
  ldn 3 t9 (fun t10 w =>
  al [.int .i64 0, .string ⟨#[]⟩, .int .i64 0] 112 (fun t3 w =>
  st 3 t3 t10 (fun w =>
  fa 1 t3 (fun t11 w =>
  ld t11 (fun t12 w =>
  fa 2 t3 (fun t13 w =>
  ld t13 (fun t14 w =>
  bd [.int .i64 0, .string ⟨#[]⟩, .int .i64 0, .int .i64 0, .slice none 0 0, .slice none 0 0] [(0, 1, (Value.int IntKind.i64 3)), (1, 1, t12), (2, 1, t14)] (fun t15 w =>
  al [.int .i64 0, .string ⟨#[]⟩, .int .i64 0, .int .i64 0, .slice none 0 0, .slice none 0 0] 50 (fun t4 w =>
  st 6 t4 t15 (fun w =>
  fa 0 t3 (fun t16 w =>
  ld t16 (fun t17 w =>
  jn 1 (fun x20 w =>
  cnd x20
  (cl P F.tree_parser_list [a0] (fun t24 w =>
  st 6 t2 t24 (fun w =>
  ldn 6 t2 (fun r0 w =>
  R (.returned r0) w) w) w) (fun ch w => R (.panicked ch) w) w)
  (bI .eql .i64 t17 (Value.int IntKind.i64 4) (fun t26 w =>
  cnd t26
  (fa 0 t4 (fun t27 w =>
  st 1 t27 (Value.int IntKind.i64 1) (fun w =>
  cl P F.tree_parser_take [a0] (fun t52 w =>
  ldn 6 t4 (fun t53 w =>
  st 6 t2 t53 (fun w =>
  ldn 6 t2 (fun r0 w =>
  R (.returned r0) w) w) w) w) (fun ch w => R (.panicked ch) w) w) w) w)
  (bI .eql .i64 t17 (Value.int IntKind.i64 5) (fun t29 w =>
  cnd t29
  (fa 0 t4 (fun t30 w =>
  st 1 t30 (Value.int IntKind.i64 2) (fun w =>
  cl P F.tree_parser_take [a0] (fun t52 w =>
  ldn 6 t4 (fun t53 w =>
  st 6 t2 t53 (fun w =>
  ldn 6 t2 (fun r0 w =>
  R (.returned r0) w) w) w) w) (fun ch w => R (.panicked ch) w) w) w) w)
  (bI .eql .i64 t17 (Value.int IntKind.i64 1) (fun t32 w =>
  cnd t32
  (fa 1 t3 (fun t33 w =>
  ld t33 (fun t34 w =>
  bS .eql t34 (Value.string { data := #[116, 114, 117, 101] }) (fun t35 w =>
  cnd t35
  (fa 0 t4 (fun t46 w =>
  st 1 t46 (Value.int IntKind.i64 13) (fun w =>
  cl P F.tree_parser_take [a0] (fun t52 w =>
  ldn 6 t4 (fun t53 w =>
  st 6 t2 t53 (fun w =>
  ldn 6 t2 (fun r0 w =>
  R (.returned r0) w) w) w) w) (fun ch w => R (.panicked ch) w) w) w) w)
  (fa 1 t3 (fun t37 w =>
  ld t37 (fun t38 w =>
  bS .eql t38 (Value.string { data := #[102, 97, 108, 115, 101] }) (fun t39 w =>
  cnd t39
  (fa 0 t4 (fun t46 w =>
  st 1 t46 (Value.int IntKind.i64 13) (fun w =>
  cl P F.tree_parser_take [a0] (fun t52 w =>
  ldn 6 t4 (fun t53 w =>
  st 6 t2 t53 (fun w =>
  ldn 6 t2 (fun r0 w =>
  R (.returned r0) w) w) w) w) (fun ch w => R (.panicked ch) w) w) w) w)
  (fa 1 t3 (fun t42 w =>
  ld t42 (fun t43 w =>
  bS .eql t43 (Value.string { data := #[110, 105, 108] }) (fun t44 w =>
  cnd t44
  (fa 0 t4 (fun t46 w =>
  st 1 t46 (Value.int IntKind.i64 13) (fun w =>
  cl P F.tree_parser_take [a0] (fun t52 w =>
  ldn 6 t4 (fun t53 w =>
  st 6 t2 t53 (fun w =>
  ldn 6 t2 (fun r0 w =>
  R (.returned r0) w) w) w) w) (fun ch w => R (.panicked ch) w) w) w) w)
  (cl P F.tree_parser_take [a0] (fun t52 w =>
  ldn 6 t4 (fun t53 w =>
  st 6 t2 t53 (fun w =>
  ldn 6 t2 (fun r0 w =>
  R (.returned r0) w) w) w) w) (fun ch w => R (.panicked ch) w) w)) w) w) w)) w) w) w)) w) w) w)
  (bI .eql .i64 t17 (Value.int IntKind.i64 6) (fun t48 w =>
  cnd t48
  (cnd t48
  (cl P F.tree_parser_take [a0] (fun t52 w =>
  ldn 6 t4 (fun t53 w =>
  st 6 t2 t53 (fun w =>
  ldn 6 t2 (fun r0 w =>
  R (.returned r0) w) w) w) w) (fun ch w => R (.panicked ch) w) w)
  (cl P F.tree_parser_bad [a0, (Value.int IntKind.i64 20)] (fun t19 w =>
  cl P F.tree_parser_take [a0] (fun t52 w =>
  ldn 6 t4 (fun t53 w =>
  st 6 t2 t53 (fun w =>
  ldn 6 t2 (fun r0 w =>
  R (.returned r0) w) w) w) w) (fun ch w => R (.panicked ch) w) w) (fun ch w => R (.panicked ch) w) w))
  (bI .eql .i64 t17 (Value.int IntKind.i64 2) (fun t49 w =>
  cnd t49
  (cnd t49
  (cl P F.tree_parser_take [a0] (fun t52 w =>
  ldn 6 t4 (fun t53 w =>
  st 6 t2 t53 (fun w =>
  ldn 6 t2 (fun r0 w =>
  R (.returned r0) w) w) w) w) (fun ch w => R (.panicked ch) w) w)
  (cl P F.tree_parser_bad [a0, (Value.int IntKind.i64 20)] (fun t19 w =>
  cl P F.tree_parser_take [a0] (fun t52 w =>
  ldn 6 t4 (fun t53 w =>
  st 6 t2 t53 (fun w =>
  ldn 6 t2 (fun r0 w =>
  R (.returned r0) w) w) w) w) (fun ch w => R (.panicked ch) w) w) (fun ch w => R (.panicked ch) w) w))
  (bI .eql .i64 t17 (Value.int IntKind.i64 3) (fun t50 w =>
  cnd t50
  (cl P F.tree_parser_take [a0] (fun t52 w =>
  ldn 6 t4 (fun t53 w =>
  st 6 t2 t53 (fun w =>
  ldn 6 t2 (fun r0 w =>
  R (.returned r0) w) w) w) w) (fun ch w => R (.panicked ch) w) w)
  (cl P F.tree_parser_bad [a0, (Value.int IntKind.i64 20)] (fun t19 w =>
  cl P F.tree_parser_take [a0] (fun t52 w =>
  ldn 6 t4 (fun t53 w =>
  st 6 t2 t53 (fun w =>
  ldn 6 t2 (fun r0 w =>
  R (.returned r0) w) w) w) w) (fun ch w => R (.panicked ch) w) w) (fun ch w => R (.panicked ch) w) w)) w)) w)) w)) w)) w)) w)) (fun k1 =>
  bI .eql .i64 t17 (Value.int IntKind.i64 17) (fun t21 w =>
  cnd t21
  (sm [(a0, a0), (t2, t2), (t3, t3), (t4, t4), (t17, t17)] [] [] (k1 t21 w))
  (bI .eql .i64 t17 (Value.int IntKind.i64 8) (fun t22 w =>
  sm [(a0, a0), (t2, t2), (t3, t3), (t4, t4), (t17, t17)] [] [] (k1 t22 w)) w)) w)) w) w) w) w) w) w) w) w) w) w) w) w) w) w) w) w) w
theorem e_tree_parser_element (R : Ending → World → Prop) (a0 : Value) (w : World) : vcFn P tab 4000 Tryz.f209.ntmps (Tryz.f209.body.getD .skip) Tryz.f209.results.toList [a0] R w = d_tree_parser_element R a0 w := by kernel_rfl
theorem t_tree_parser_element (R : Ending → World → Prop) (a0 : Value) (w : World) (h : d_tree_parser_element R a0 w) : Tr P F.tree_parser_element [a0] w R :=
  fn_ok (fn := Tryz.f209) (c := Tryz.f209.body.getD .skip) (fuel := 4000) mixed tab_ok Tryz.func209 (by kernel_rfl) (by kernel_rfl) (Nat.le_of_ble_eq_true (by kernel_rfl)) (Eq.mpr (e_tree_parser_element R a0 w) h)
/-- (*lapidary/tree.parser).block$1 -/
def d_tree_parser_block_1 (R : Ending → World → Prop) (a0 a1 : Value) (w : World) : Prop :=
  lp 0 [] (fun r1 w =>
  ld a0 (fun t2 w =>
  cl P F.tree_parser_kind [t2] (fun t3 w =>
  bI .eql .i64 t3 (Value.int IntKind.i64 16) (fun t4 w =>
  cnd t4
  (ld a0 (fun t5 w =>
  cl P F.tree_parser_take [t5] (fun t6 w =>
  drw w (fun w =>
  fa 4 a1 (fun t7 w =>
  ld t7 (fun t8 w =>
  ld a0 (fun t9 w =>
  cl P F.tree_parser_need [t9, (Value.int IntKind.i64 1)] (fun t10 w =>
  rk false t7 t8
  (fl false 1 1 t10 (fun t11 w =>
  bs 9 [.string ⟨#[]⟩] 1 [(0, 1, t11)] (fun t12 w =>
  rk false t7 t8
  (ap 9 1 16 [.string ⟨#[]⟩] t8 t12 (fun t13 w =>
  fa 4 a1 (fun t14 w =>
  st 1 t14 t13 (fun w =>
  sm [(a0, a0), (a1, a1)] [] [] (r1 [] w)) w) w) w) w) w) w) w) (fun ch w => R (.panicked ch) w) w) w) w) w)) (fun ch w => R (.panicked ch) w) w) w)
  (fa 4 a1 (fun t15 w =>
  ld t15 (fun t16 w =>
  lnL t16 (fun t17 w =>
  fa 3 a1 (fun t18 w =>
  st 1 t18 t17 (fun w =>
  fa 3 a1 (fun t19 w =>
  ld t19 (fun t20 w =>
  bI .gtr .i64 t20 (Value.int IntKind.i64 0) (fun t21 w =>
  cnd t21
  (ld a0 (fun t23 w =>
  cl P F.tree_parser_kind [t23] (fun t24 w =>
  bI .neq .i64 t24 (Value.int IntKind.i64 11) (fun t25 w =>
  cnd t25
  (ld a0 (fun t27 w =>
  cl P F.tree_parser_need [t27, (Value.int IntKind.i64 12)] (fun t28 w =>
  ld a0 (fun t29 w =>
  cl P F.tree_parser_body [t29, a1, (Value.int IntKind.i64 11)] (fun t30 w =>
  ld a0 (fun t31 w =>
  cl P F.tree_parser_take [t31] (fun t32 w =>
  R (.returned (.tuple #[])) w) (fun ch w => R (.panicked ch) w) w) w) (fun ch w => R (.panicked ch) w) w) w) (fun ch w => R (.panicked ch) w) w) w)
  (ld a0 (fun t29 w =>
  cl P F.tree_parser_body [t29, a1, (Value.int IntKind.i64 11)] (fun t30 w =>
  ld a0 (fun t31 w =>
  cl P F.tree_parser_take [t31] (fun t32 w =>
  R (.returned (.tuple #[])) w) (fun ch w => R (.panicked ch) w) w) w) (fun ch w => R (.panicked ch) w) w) w)) w) (fun ch w => R (.panicked ch) w) w) w)
  (ld a0 (fun t29 w =>
  cl P F.tree_parser_body [t29, a1, (Value.int IntKind.i64 11)] (fun t30 w =>
  ld a0 (fun t31 w =>
  cl P F.tree_parser_take [t31] (fun t32 w =>
  R (.returned (.tuple #[])) w) (fun ch w => R (.panicked ch) w) w) w) (fun ch w => R (.panicked ch) w) w) w)) w) w) w) w) w) w) w) w)) w) (fun ch w => R (.panicked ch) w) w) w) w
theorem e_tree_parser_block_1 (R : Ending → World → Prop) (a0 a1 : Value) (w : World) : vcFn P tab 4000 Tryz.f210.ntmps (Tryz.f210.body.getD .skip) Tryz.f210.results.toList [a0, a1] R w = d_tree_parser_block_1 R a0 a1 w := by kernel_rfl
theorem t_tree_parser_block_1 (R : Ending → World → Prop) (a0 a1 : Value) (w : World) (h : d_tree_parser_block_1 R a0 a1 w) : Tr P F.tree_parser_block_1 [a0, a1] w R :=
  fn_ok (fn := Tryz.f210) (c := Tryz.f210.body.getD .skip) (fuel := 4000) mixed tab_ok Tryz.func210 (by kernel_rfl) (by kernel_rfl) (Nat.le_of_ble_eq_true (by kernel_rfl)) (Eq.mpr (e_tree_parser_block_1 R a0 a1 w) h)
end Go.Vx
namespace Go.Vx
open Go Go.Proofs

theorem wrap64_nat {a b : Nat} (h : a + b ≤ 9223372036854775807) : IntKind.i64.wrap ((a : Int) + (b : Int)) = ((a + b : Nat) : Int) := by
  rw [wrap64_of (by omega) (by omega)]; simp
theorem wrap64_succ {a : Nat} (h : a < 9223372036854775807) : IntKind.i64.wrap ((a : Int) + 1) = ((a + 1 : Nat) : Int) := by
  rw [wrap64_of (by omega) (by omega)]; simp
theorem wrap64_two {a : Nat} (h : a < 9223372036854775806) : IntKind.i64.wrap ((a : Int) + 2) = ((a + 2 : Nat) : Int) := by
  rw [wrap64_of (by omega) (by omega)]; simp
theorem wrap64_sub {a b : Nat} (h : b ≤ a) (h2 : a ≤ 9223372036854775807) : IntKind.i64.wrap ((a : Int) - (b : Int)) = ((a - b : Nat) : Int) := by
  rw [wrap64_of (by omega) (by omega)]; omega

theorem wrap_u8 (c : UInt8) : IntKind.u8.wrap ((c.toNat : Nat) : Int) = ((c.toNat : Nat) : Int) := by
  have := c.toNat_lt
  show ((c.toNat : Nat) : Int) % 256 = _
  omega

theorem u8_all {p : UInt8 → Bool} (h : (List.range 256).all (fun n => p (UInt8.ofNat n)) = true) (c : UInt8) : p c = true := by
  rw [List.all_eq_true] at h
  have := h c.toNat (by simp; exact c.toNat_lt)
  simpa using this

theorem byt_eq (a b : UInt8) : decide ((a.toNat : Int) = (b.toNat : Int)) = (a == b) := by
  rw [Bool.eq_iff_iff]
  simp only [decide_eq_true_eq, beq_iff_eq, UInt8.toNat_inj, Int.natCast_inj]

/-- Bytes are the same. -/
theorem B1 :
    (∀ (a : UInt8) (m : Nat) (K : Value → World → Prop) (w : World), bI .eql .u8 (byt a) (.int .u8 (OfNat.ofNat m)) K w = K (.bool (decide ((a.toNat : Int) = OfNat.ofNat m))) w) := by
  intros; exact bI_eql _ _ _

theorem letter_fact (c : UInt8) : (if 97 ≤ bitsI .or .u8 (c.toNat : Int) 32 then decide (bitsI .or .u8 (c.toNat : Int) 32 ≤ 122) else false) = letterB c := by
  have := u8_all (p := fun c => (if 97 ≤ bitsI .or .u8 (c.toNat : Int) 32 then decide (bitsI .or .u8 (c.toNat : Int) 32 ≤ 122) else false) == letterB c) (by kernel_rfl) c
  simpa using this

variable {R : Ending → World → Prop} {g : G} {w : World} {H : Hp}

theorem c_letter {c : UInt8} (hR : R (.returned (.bool (letterB c))) w) : Tr P F.lex_letter [byt c] w R := by
  apply t_lex_letter
  unfold d_lex_letter
  simp only [↓E1, ↓C1]
  rw [← letter_fact] at hR
  constructor
  · intro h; rw [if_pos h] at hR; exact hR
  · intro h; rw [if_neg h] at hR; exact hR

theorem digit_fact (c : UInt8) : (if (48 : Int) ≤ c.toNat then decide ((c.toNat : Int) ≤ 57) else false) = digitB c := by
  have := u8_all (p := fun c => (if (48 : Int) ≤ c.toNat then decide ((c.toNat : Int) ≤ 57) else false) == digitB c) (by kernel_rfl) c
  simpa using this
theorem c_digit {c : UInt8} (hR : R (.returned (.bool (digitB c))) w) : Tr P F.lex_digit [byt c] w R := by
  apply t_lex_digit
  unfold d_lex_digit
  simp only [↓E1, ↓C1]
  rw [← digit_fact] at hR
  constructor
  · intro h; rw [if_pos h] at hR; exact hR
  · intro h; rw [if_neg h] at hR; exact hR

/-! ### Where a byte stands -/
theorem idxGo_some {c : UInt8} : ∀ {l : List UInt8} {i k : Nat}, idxGo c l i = some k → i ≤ k ∧ k < i + l.length := by
  intro l
  induction l with
  | nil => intro i k h; simp [idxGo] at h
  | cons x l ih =>
    intro i k h
    simp only [idxGo] at h
    cases hx : (x == c)
    · rw [hx] at h
      have := ih h
      simp only [List.length_cons]
      omega
    · rw [hx] at h
      simp at h
      simp only [List.length_cons]
      omega

def idxI (o : Option Nat) : Int := match o with | some k => (k : Int) | none => -1

theorem c_place {c : UInt8} {l : List UInt8} (hl : ∀ x ∈ l, x.toNat < 128) (hS : Sat g w H) (hR : ∀ w', Sat g w' H → R (.returned (i64 (idxI (idx c l)))) w') :
    Tr P F.lex_place [byt c, str l] w R := by
  apply t_lex_place
  unfold d_lex_place
  apply hS.rgS
  intro b w' h
  refine lp1 (fun m x w => ∃ k, k ≤ l.length ∧ m = l.length - k ∧ idxGo c (l.drop k) k = idx c l ∧ Sat g w ((b, .stringIter ⟨l.toArray⟩ k) :: H)) l.length ⟨0, by omega, by omega, by simp [idx], h⟩ ?_
  rintro m x w1 ⟨k, hk, rfl, hi, h1⟩
  refine h1.nxS ?_ ?_
  · intro hlt w2 h2
    have hlt' : k < l.length := hlt
    have hget : (⟨l.toArray⟩ : ByteArray)[k]'hlt = l[k] := rfl
    have hdec := decode_ascii ⟨l.toArray⟩ k hlt (by rw [hget]; exact hl _ (List.getElem_mem hlt'))
    rw [hget] at hdec
    rw [hdec] at h2 ⊢
    have hwr : IntKind.u8.wrap ((l[k].toNat : Nat) : Int) = ((l[k].toNat : Nat) : Int) := by
      exact wrap_u8 _
    have hcons : l.drop k = l[k] :: l.drop (k + 1) := List.drop_eq_getElem_cons hlt'
    rw [hcons] at hi
    simp only [idxGo] at hi
    simp only [↓E1, ↓E2, ↓E3, hwr, byt_eq]
    rw [cnd_eq]
    constructor
    · intro he
      rw [he] at hi
      simp only [cond_true] at hi
      have := hR _ h2.tail
      rw [← hi] at this
      exact this
    · intro he
      rw [he] at hi
      exact ⟨l.length - (k + 1), by omega, x, rfl, k + 1, by omega, rfl, hi, h2⟩
  · intro hge
    have : k = l.length := by
      have : l.length ≤ k := hge
      omega
    subst this
    simp only [List.drop_length, idxGo] at hi
    simp only [↓E1, ↓E2, ↓E3]
    have := hR _ h1.tail
    rw [← hi] at this
    exact this

/-- A function value that tells of each byte whether it is so, and changes nothing that counts. -/
def PredV (f : Value) (p : UInt8 → Bool) : Prop :=
  ∃ k cap, f = .func (.func k) #[] cap ∧ ∀ (c : UInt8) (g : G) (H : Hp) (w : World) (R : Ending → World → Prop), Sat g w H → (∀ w', Sat g w' H → R (.returned (.bool (p c))) w') → Tr P k ([byt c] ++ cap.toList) w R

theorem p_letter : PredV (.func (.func F.lex_letter) #[] #[]) letterB := ⟨_, _, rfl, fun c g H w R h hR => c_letter (hR _ h)⟩
theorem p_digit : PredV (.func (.func F.lex_digit) #[] #[]) digitB := ⟨_, _, rfl, fun c g H w R h hR => c_digit (hR _ h)⟩
theorem p_id : PredV (.func (.func F.lex_reader_name_1) #[] #[]) idB := by
  refine ⟨_, _, rfl, fun c g H w R h hR => ?_⟩
  apply t_lex_reader_name_1
  unfold d_lex_reader_name_1
  have hR' := hR _ h
  apply c_letter
  simp only [idB] at hR'
  cases hl : letterB c
  · simp only [↓E1, ↓E2, ↓E3]
    apply c_digit
    cases hd : digitB c
    · simp only [↓E1, ↓E2, ↓E3]
      rw [hl, hd] at hR'
      have e : (95 : Int) = ((95 : UInt8).toNat : Int) := rfl
      rw [e, byt_eq]
      exact hR'
    · simp only [↓E1, ↓E2, ↓E3]
      simpa [hl, hd] using hR'
  · simp only [↓E1, ↓E2, ↓E3]
    simpa [hl] using hR'

theorem idxI_ge (o : Option Nat) : decide (0 ≤ idxI o) = o.isSome := by
  cases o <;> simp [idxI]

theorem sign_ascii : ∀ x ∈ signL, x.toNat < 128 := by decide
theorem blank_ascii : ∀ x ∈ blankL, x.toNat < 128 := by decide
theorem single_ascii : ∀ x ∈ singleL, x.toNat < 128 := by decide

theorem p_sign : PredV (.func (.func F.lex_reader_sign_1) #[] #[]) signB := by
  refine ⟨_, _, rfl, fun c g H w R h hR => ?_⟩
  apply t_lex_reader_sign_1
  unfold d_lex_reader_sign_1
  refine c_place (l := signL) sign_ascii h fun w' h' => ?_
  simp only [↓E1, ↓E2, ↓E3, idxI_ge]
  exact hR _ h'
theorem p_blank : PredV (.func (.func F.lex_Read_1) #[] #[]) blankB := by
  refine ⟨_, _, rfl, fun c g H w R h hR => ?_⟩
  apply t_lex_Read_1
  unfold d_lex_Read_1
  refine c_place (l := blankL) blank_ascii h fun w' h' => ?_
  simp only [↓E1, ↓E2, ↓E3, idxI_ge]
  exact hR _ h'

/-! ### The reader -/
/-- A reader's block. -/
abbrev rdr (s : List UInt8) (i : Nat) : Obj := .cells [str s, i64 (i : Int)].toArray 132

/-- A source that is not too long. -/
def Short (s : List UInt8) : Prop := s.length ≤ 70368744177664

theorem c_peek {r : Nat} {s : List UInt8} {i k : Nat} (hS : Sat g w ((r, rdr s i) :: H)) (hk : i + k ≤ 9223372036854775807)
    (hR : ∀ w', Sat g w' ((r, rdr s i) :: H) → R (.returned (byt (peekS s (i + k)))) w') : Tr P F.lex_reader_peek [ptr r 0, i64 (k : Int)] w R := by
  apply t_lex_reader_peek
  unfold d_lex_reader_peek
  have h1 := hS.drew
  have h2 := h1.drew
  simp only [↓E1, ↓E2, ↓E3, ↓C1, ↓h1.ld0, ↓h2.ld0, Nat.reduceAdd, Nat.reduceLT, wrap64_nat hk]
  constructor
  · intro h
    refine ⟨by omega, peekS s (i + k), ?_, hR _ h2⟩
    have : i + k < s.length := by omega
    rw [show ((↑(i + k) : Int)).toNat = i + k from by omega]
    simp [peekS, this]
  · intro h
    have h3 : ¬ i + k < s.length := by omega
    have h4 : peekS s (i + k) = 0 := by simp [peekS, h3, List.getD_eq_getElem?_getD]
    have := hR _ h1
    rw [h4] at this
    exact this

theorem c_more {r : Nat} {s : List UInt8} {i : Nat} {f : Value} {p : UInt8 → Bool} (hS : Sat g w ((r, rdr s i) :: H)) (hf : PredV f p)
    (hR : ∀ w', Sat g w' ((r, rdr s i) :: H) → R (.returned (.bool (isAt p s i))) w') : Tr P F.lex_reader_more [ptr r 0, f] w R := by
  obtain ⟨k, cap, rfl, hf⟩ := hf
  apply t_lex_reader_more
  unfold d_lex_reader_more
  have hw := hS.drew
  simp only [↓E1, ↓E2, ↓E3, ↓C1, ↓hw.ld0, Nat.reduceAdd, Nat.reduceLT]
  constructor
  · intro hi
    obtain ⟨c, hc⟩ : ∃ c, s[i]? = some c := ⟨s[i]'(by omega), List.getElem?_eq_getElem (by omega)⟩
    refine ⟨by omega, c, by simpa using hc, ?_⟩
    refine hf c g _ _ _ hw fun w' h' => ?_
    simp only [↓E3]
    simpa [isAt, hc] using hR _ h'
  · intro hi
    have hc : s[i]? = none := List.getElem?_eq_none (by omega)
    simpa [isAt, hc] using hR _ hw

theorem skip_yes {p : UInt8 → Bool} {s : List UInt8} {i : Nat} (h : isAt p s i = true) : skipS p s i = skipS p s (i + 1) ∧ i < s.length := by
  unfold isAt at h
  cases hc : s[i]? with
  | none => rw [hc] at h; simp at h
  | some c =>
    rw [hc] at h
    obtain ⟨hlt, he⟩ := List.getElem?_eq_some_iff.1 hc
    refine ⟨?_, hlt⟩
    unfold skipS
    rw [List.drop_eq_getElem_cons hlt, he]
    simp only [Option.elim] at h
    simp only [scan, h, cond_true]
    omega
theorem skip_no {p : UInt8 → Bool} {s : List UInt8} {i : Nat} (h : isAt p s i = false) : skipS p s i = i := by
  unfold skipS
  unfold isAt at h
  cases hc : s[i]? with
  | none => rw [List.drop_eq_nil_of_le (by simpa using hc)]; rfl
  | some c =>
    rw [hc] at h
    obtain ⟨hlt, he⟩ := List.getElem?_eq_some_iff.1 hc
    rw [List.drop_eq_getElem_cons hlt, he]
    simp only [Option.elim] at h
    simp only [scan, h, cond_false, Nat.add_zero]
theorem skip_le {p : UInt8 → Bool} {s : List UInt8} {i : Nat} (h : i ≤ s.length) : i ≤ skipS p s i ∧ skipS p s i ≤ s.length := by
  have key : ∀ l : List UInt8, scan p l ≤ l.length := by
    intro l
    induction l with
    | nil => simp [scan]
    | cons c l ih => simp only [scan]; cases p c <;> simp <;> omega
  have := key (s.drop i)
  rw [List.length_drop] at this
  unfold skipS
  omega

theorem c_skip {r : Nat} {s : List UInt8} {i : Nat} {f : Value} {p : UInt8 → Bool} (hs : Short s) (hi : i ≤ s.length) (hS : Sat g w ((r, rdr s i) :: H)) (hf : PredV f p)
    (hR : ∀ w', Sat g w' ((r, rdr s (skipS p s i)) :: H) → R (.returned (.tuple #[])) w') : Tr P F.lex_reader_skip [ptr r 0, f] w R := by
  apply t_lex_reader_skip
  unfold d_lex_reader_skip
  unfold Short at hs
  refine lp0 (fun m w => ∃ j, j ≤ s.length ∧ m = s.length - j ∧ skipS p s j = skipS p s i ∧ Sat g w ((r, rdr s j) :: H)) rfl (s.length - i) ⟨i, hi, rfl, rfl, hS⟩ ?_
  rintro m w1 ⟨j, hj, rfl, he, h1⟩
  refine c_more h1 hf fun w2 h2 => ?_
  cases hc : isAt p s j
  · rw [skip_no hc] at he
    simp only [↓E1, ↓E2, ↓E3]
    rw [← he] at hR
    exact hR _ h2
  · obtain ⟨hy, hlt⟩ := skip_yes hc
    simp only [↓E1, ↓E2, ↓E3, ↓h2.ld0, Nat.reduceAdd, Nat.reduceLT]
    rw [wrap64_succ (by omega)]
    refine h2.st rfl (by simp) rfl fun w3 h3 => ?_
    exact ⟨s.length - (j + 1), by omega, trivial, j + 1, by omega, rfl, by rw [← hy, he], h3⟩

theorem c_name {r : Nat} {s : List UInt8} {i : Nat} (hs : Short s) (hi : i ≤ s.length) (hS : Sat g w ((r, rdr s i) :: H))
    (hR : ∀ w', Sat g w' ((r, rdr s (nameS s i).2) :: H) → R (.returned (.bool (nameS s i).1)) w') : Tr P F.lex_reader_name [ptr r 0] w R := by
  apply t_lex_reader_name
  unfold d_lex_reader_name
  refine c_more hS p_letter fun w1 h1 => ?_
  unfold nameS at hR
  cases hc : isAt letterB s i
  · rw [hc] at hR
    simp only [↓E1, ↓E2, ↓E3, Bool.not_false]
    exact hR _ h1
  · rw [hc] at hR
    simp only [↓E1, ↓E2, ↓E3, Bool.not_true]
    refine c_skip hs hi h1 p_id fun w2 h2 => ?_
    simp only [↓E3]
    exact hR _ h2

theorem name_le {s : List UInt8} {i : Nat} (hi : i ≤ s.length) : i ≤ (nameS s i).2 ∧ (nameS s i).2 ≤ s.length := by
  unfold nameS
  cases isAt letterB s i
  · exact ⟨Nat.le_refl _, hi⟩
  · exact skip_le hi

theorem c_colon {r : Nat} {s : List UInt8} {i : Nat} (hs : Short s) (hi : i ≤ s.length) (hS : Sat g w ((r, rdr s i) :: H))
    (hR : ∀ w', Sat g w' ((r, rdr s i) :: H) → R (.returned (.bool (colonS s i))) w') : Tr P F.lex_reader_colon [ptr r 0] w R := by
  apply t_lex_reader_colon
  unfold d_lex_reader_colon
  unfold Short at hs
  refine c_peek (k := 0) hS (by omega) fun w1 h1 => ?_
  have e : (58 : Int) = ((58 : UInt8).toNat : Int) := rfl
  simp only [↓E1, ↓E2, ↓E3]
  rw [e, byt_eq]
  simp only [colonS] at hR
  rw [Nat.add_zero]
  cases hc : (peekS s i == 58)
  · rw [hc] at hR
    simp only [↓E3]
    exact hR _ h1
  · rw [hc] at hR
    simp only [↓E3]
    refine c_peek (k := 1) h1 (by omega) fun w2 h2 => ?_
    have e : (61 : Int) = ((61 : UInt8).toNat : Int) := rfl
    simp only [↓E1, ↓E2, ↓E3]
    rw [e, byt_eq]
    exact hR _ h2

theorem isAt_lt {p : UInt8 → Bool} {s : List UInt8} {i : Nat} (h : isAt p s i = true) : i < s.length := (skip_yes h).2

theorem c_sign {r : Nat} {s : List UInt8} {i : Nat} (hs : Short s) (hi : i ≤ s.length) (hS : Sat g w ((r, rdr s i) :: H))
    (hR : ∀ w', Sat g w' ((r, rdr s (signS s i)) :: H) → R (.returned (.bool (Nat.blt i (signS s i)))) w') : Tr P F.lex_reader_sign [ptr r 0] w R := by
  apply t_lex_reader_sign
  unfold d_lex_reader_sign
  unfold Short at hs
  simp only [↓E1, ↓E2, ↓E3, ↓hS.ld0, Nat.reduceAdd, Nat.reduceLT, ↓jn_eq]
  refine lp0 (fun m w => ∃ j, i ≤ j ∧ j ≤ i + 2 ∧ j ≤ s.length ∧ m = i + 2 - j ∧ (j = i ∨ (j = i + 1 ∧ isAt signB s i = true) ∨ (j = i + 2 ∧ isAt signB s i = true ∧ isAt signB s (i + 1) = true)) ∧ Sat g w ((r, rdr s j) :: H)) rfl 2 ⟨i, by omega, by omega, hi, by omega, .inl rfl, hS⟩ ?_
  rintro m w1 ⟨j, h0, h2, hj, rfl, hcase, h1⟩
  have fin : ∀ (w1 : World) (h1 : Sat g w1 ((r, rdr s j) :: H)), (j = i + 2 ∨ isAt signB s j = false) → R (.returned (.bool (decide ((i : Int) < (j : Int))))) w1 := by
    intro w1 h1 hno
    have he : signS s i = j := by
      unfold signS
      rcases hcase with rfl | ⟨rfl, hc⟩ | ⟨rfl, hc, hc2⟩
      · rcases hno with h | h
        · omega
        · rw [h]; rfl
      · rcases hno with h | h
        · omega
        · rw [hc, h]; rfl
      · rw [hc, hc2]; rfl
    rw [he] at hR
    have := hR _ h1
    have e : Nat.blt i j = decide ((i : Int) < (j : Int)) := by
      rw [Bool.eq_iff_iff]; simp [Nat.blt_eq]
    rw [e] at this
    exact this
  simp only [↓E1, ↓E2, ↓E3, ↓C1, ↓h1.ld0, Nat.reduceAdd, Nat.reduceLT]
  rw [wrap64_two (by omega)]
  constructor
  · intro hlt
    refine c_more h1 p_sign fun w2 h2 => ?_
    cases hc : isAt signB s j
    · simp only [↓E1, ↓E2, ↓E3, ↓C1, ↓h2.ld0, Nat.reduceAdd, Nat.reduceLT]
      exact fin _ h2 (.inr hc)
    · have hlt2 := isAt_lt hc
      simp only [↓E1, ↓E2, ↓E3, ↓C1, ↓h2.ld0, Nat.reduceAdd, Nat.reduceLT]
      rw [wrap64_succ (by omega)]
      refine h2.st rfl (by simp) rfl fun w3 h3 => ?_
      refine ⟨i + 2 - (j + 1), by omega, trivial, j + 1, by omega, by omega, by omega, rfl, ?_, h3⟩
      rcases hcase with rfl | ⟨rfl, h4⟩ | ⟨rfl, _⟩
      · exact .inr (.inl ⟨rfl, hc⟩)
      · exact .inr (.inr ⟨rfl, h4, hc⟩)
      · omega
  · intro hge
    exact fin _ h1 (.inl (by omega))
end Go.Vx
namespace Go.Vx
open Go Go.Proofs
variable {R : Ending → World → Prop} {g : G} {w : World} {H hp : Hp}

/-- A function that the model answers by itself. -/
theorem tr_extern {P : Program} {f : FuncId} {fn : Func} {e : Array Value → Sem Value} {args : List Value} {w : World} {R : Ending → World → Prop} (hf : P.funcs[f]? = some fn) (hname : (fn.name == "runtime.NumGoroutine") = false)
    (hb : fn.body.isNone = true) (hn : Extern.findNext fn = none) (he : Extern.find fn = some e) {v : Value} {w' : World} (hr : (e args.toArray).run P w = .ok v w') (hR : R (.returned v) w') : Tr P f args w R :=
  .inr ⟨v, w', by rw [run_callFunc_extern hf hname hb hn he, hr]; rfl, hR⟩

theorem c_noEscape {x : Value} (hR : R (.returned x) w) : Tr P F.internal_abi_NoEscape [x] w R :=
  tr_extern (e := Extern.AbiNoEscape.same) Tryz.func181 (by kernel_rfl) (by kernel_rfl) (by kernel_rfl) (by kernel_rfl) (Lib.run_noEscape (P := P) w x) hR

theorem run_neq_self {P : Program} {tp te : TypeId} {j : TypeInfo} (a : Addr) (ox oy : Operand) (hp : P.underlying tp = some (.pointer te)) (hte : P.info? te = some j) (w : World) :
    (eqRun .neq tp ox oy (.pointer (some a)) (.pointer (some a))).run P w = .ok (.bool false) w := by
  unfold eqRun
  simp only [Sem.run_bind]
  rw [eqGuard_plain (P := P) .neq tp ox oy (.pointer (some a)) (.pointer (some a)) w (by intro a c ⟨e, _⟩; simp at e) (by rintro ⟨e, _⟩; simp at e)]
  exact Lib.run_neq_ptr_same (P := P) w a hp hte

/-- What 'addr' holds. -/
def Adr (b : Nat) (p : Value) : Prop := p = .pointer none ∨ p = ptr b 0

abbrev bldT (ty : TypeId) (p v : Value) : Obj := .cells [p, v].toArray ty
abbrev bld (p v : Value) : Obj := bldT Ty.strings_Builder p v
/-- A variable of a type begins with a builder. -/
def Fits (ty : TypeId) : Prop := liesAt P P.depth ty (2 / P.cellsOf ty) 0 189 1 = true
theorem fits_builder : Fits Ty.strings_Builder := by unfold Fits; kernel_rfl
theorem fits_writer : Fits Ty.tree_writer := by unfold Fits; kernel_rfl

theorem under_ty {t : Nat} {d : TypeDesc} (h : P.underlying t = some d) : P.underlying t = some d := h

theorem gc_copyCheck {ty : TypeId} (hty : Fits ty) {b : Nat} {p v : Value} (hS : Sat g w ((b, bldT ty p v) :: H)) (hp : Adr b p)
    (hR : ∀ w', Sat g w' ((b, bldT ty (ptr b 0) v) :: H) → R (.returned (.tuple #[])) w') : Tr P F.strings_Builder_copyCheck [ptr b 0] w R := by
  apply t_strings_Builder_copyCheck
  unfold d_strings_Builder_copyCheck
  obtain ⟨j, hj, hj1, _⟩ := ty189_ok.info
  rcases hp with rfl | rfl
  · simp only [↓E1, ↓E2, ↓E3, ↓hS.ld0, Nat.reduceAdd, Nat.reduceLT, ↓bNn_eql]
    have hsh : w.shape? b = some (ty, 2) := by simp [World.shape?, hS.block (b := b) (o := bldT ty (.pointer none) v) (by simp)]
    refine ⟨_, _, Lib.run_to_unsafe w ⟨b, 0, none⟩ (t := 189) Tryz.underlying187 Tryz.underlying245 hj (by rw [hj1]; decide) hsh (by simp), ?_⟩
    apply c_noEscape
    simp only [↓E1, ↓E2, ↓E3]
    refine ⟨_, _, Lib.run_from_unsafe w ⟨b, 0, none⟩ (u := 189) Tryz.underlying245 Tryz.underlying187 hj hsh ?_, ?_⟩
    · exact hty
    · simp only [↓E1, ↓E2, ↓E3]
      refine hS.st rfl (by simp) rfl fun w3 h3 => ?_
      exact hR _ h3
  · simp only [↓E1, ↓E2, ↓E3, ↓hS.ld0, Nat.reduceAdd, Nat.reduceLT, ↓bNp_eql]
    refine ⟨.bool false, fun w' => run_neq_self ⟨b, 0, none⟩ _ _ Tryz.underlying187 hj w', ?_⟩
    simp only [↓E1, ↓E2, ↓E3]
    exact hR _ hS

theorem c_copyCheck {b : Nat} {p v : Value} (hS : Sat g w ((b, bld p v) :: H)) (hp : Adr b p)
    (hR : ∀ w', Sat g w' ((b, bld (ptr b 0) v) :: H) → R (.returned (.tuple #[])) w') : Tr P F.strings_Builder_copyCheck [ptr b 0] w R :=
  gc_copyCheck fits_builder hS hp hR

/-- The bytes as cells. -/
abbrev bcs (l : List UInt8) : List Value := l.map byt

theorem allOne_byt (l : List UInt8) : allOne (bcs l) = true := by
  induction l with
  | nil => rfl
  | cons c l ih => simpa [allOne, one] using ih

theorem gc_WriteByte {ty : TypeId} (hty : Fits ty) {b n : Nat} {p v : Value} {l : List UInt8} {c : UInt8} (hS : Sat g w ((b, bldT ty p v) :: (hp ++ H))) (hp' : Adr b p) (hg : Grow Ty.uint8 1 v n (bcs l) hp) (hn : n + 1 ≤ 140737488355328)
    (hR : ∀ v' hp' w', Grow Ty.uint8 1 v' (n + 1) (bcs (l ++ [c])) hp' → Sat g w' ((b, bldT ty (ptr b 0) v') :: (hp' ++ H)) → R (.returned .nilIface) w') : Tr P F.strings_Builder_WriteByte [ptr b 0, byt c] w R := by
  apply t_strings_Builder_WriteByte
  unfold d_strings_Builder_WriteByte
  refine gc_copyCheck hty hS hp' fun w1 h1 => ?_
  simp only [↓E1, ↓E2, ↓E3, ↓h1.ld0, Nat.reduceAdd, Nat.reduceLT]
  refine h1.bs (cs := [byt c]) rfl fun b2 w2 h2 => ?_
  have h3 : Sat g w2 ((b2, .cells [byt c].toArray 5) :: (hp ++ ((b, bldT ty (ptr b 0) v) :: H))) := h2.perm (.cons _ List.perm_middle.symm)
  refine Sat.ap1 (m := 1) (c := 1) h3 hg rfl rfl rfl (by omega) (by omega) fun v' hp2 w4 hg4 h4 => ?_
  have h5 : Sat g w4 ((b, bldT ty (ptr b 0) v) :: (hp2 ++ H)) := h4.perm List.perm_middle
  refine h5.st (by cases hg4; rfl) (by simp) (by cases hg4; rfl) fun w6 h6 => ?_
  refine hR v' hp2 w6 (by simpa [bcs] using hg4) ?_
  have e : wr [ptr b 0, v].toArray 1 v'.cells.toList = [ptr b 0, v'].toArray := by cases hg4; rfl
  rw [e] at h6
  exact h6
theorem c_WriteByte {b n : Nat} {p v : Value} {l : List UInt8} {c : UInt8} (hS : Sat g w ((b, bld p v) :: (hp ++ H))) (hp' : Adr b p) (hg : Grow Ty.uint8 1 v n (bcs l) hp) (hn : n + 1 ≤ 140737488355328)
    (hR : ∀ v' hp' w', Grow Ty.uint8 1 v' (n + 1) (bcs (l ++ [c])) hp' → Sat g w' ((b, bld (ptr b 0) v') :: (hp' ++ H)) → R (.returned .nilIface) w') : Tr P F.strings_Builder_WriteByte [ptr b 0, byt c] w R :=
  gc_WriteByte fits_builder hS hp' hg hn hR

theorem c_BLen {b n : Nat} {p v : Value} {l : List UInt8} (hS : Sat g w ((b, bld p v) :: H)) (hv : ∃ a c, v = .slice a n c) (hR : ∀ w', Sat g w' ((b, bld p v) :: H) → R (.returned (i64 (n : Int))) w') :
    Tr P F.strings_Builder_Len [ptr b 0] w R := by
  apply t_strings_Builder_Len
  unfold d_strings_Builder_Len
  obtain ⟨a, c, rfl⟩ := hv
  simp only [↓E1, ↓E2, ↓E3, ↓hS.ld0, Nat.reduceAdd, Nat.reduceLT]
  exact hR _ hS

theorem Grow.slice {e : TypeId} {sz n : Nat} {v : Value} {cs : List Value} (h : Grow e sz v n cs hp) : ∃ a c, v = .slice a n c := by
  rcases h.inv with ⟨h1, rfl, _⟩ | ⟨_, _, _, h1, _⟩ <;> exact ⟨_, _, h1⟩

theorem cells_byte : P.cellsOf 5 = 1 := by kernel_rfl

theorem gc_BString {ty : TypeId} {b n : Nat} {p v : Value} {l : List UInt8} (hS : Sat g w ((b, bldT ty p v) :: (hp ++ H))) (hg : Grow Ty.uint8 1 v n (bcs l) hp) (hn : n ≤ 9223372036854775807)
    (hR : ∀ w', Sat g w' ((b, bldT ty p v) :: H) → R (.returned (str l)) w') : Tr P F.strings_Builder_String [ptr b 0] w R := by
  apply t_strings_Builder_String
  unfold d_strings_Builder_String
  have h1 := hS.drew
  obtain ⟨a, c, rfl⟩ := hg.slice
  simp only [↓E1, ↓E2, ↓E3, ↓h1.ld0, Nat.reduceAdd, Nat.reduceLT]
  have hsub : ∀ w', Sat g w' ((b, bldT ty p (.slice a n c)) :: (hp ++ H)) → Sat g w' ((b, bldT ty p (.slice a n c)) :: H) := fun w' h =>
    Sat.drop (A := hp) (h.perm List.perm_middle.symm)
  have hln := hg.len
  have h0 : n = 0 → l = [] := by
    intro h
    subst h
    have : (bcs l).length = 0 := by simpa using hln
    exact List.eq_nil_of_length_eq_zero (by simpa using this)
  have hln' : l.length = n := by simpa using hln
  rcases hg.inv with ⟨he, rfl, _, rfl⟩ | ⟨b2, c2, ex, he, h2, h3, h4, h5, rfl⟩
  · injection he with e1 e2 e3
    subst e1 e3
    refine ⟨_, _, Lib.run_unsafeSliceData_nil _ _ _ 0 0, h1.rk (t := ty) (fr := (0, 0)) (c := [p, .slice none 0 0]) (by simp) rfl ?_⟩
    refine ⟨_, _, Lib.run_unsafeString_none _ _ _ _ _, ?_⟩
    have := h0 rfl
    subst this
    exact hR _ (hsub _ h1)
  · injection he with e1 e2 e3
    subst e1 e3
    refine ⟨_, _, Lib.run_unsafeSliceData_row _ _ _ _ _ _ (by omega), h1.rk (t := ty) (fr := (0, 0)) (c := [p, .slice (some ⟨b2, 0, none⟩) n c]) (by simp) rfl ?_⟩
    by_cases hz : n = 0
    · have := h0 hz
      subst this hz
      refine ⟨_, _, Lib.run_unsafeString_none _ _ _ _ _, ?_⟩
      exact hR _ (hsub _ h1)
    · have hblk := h1.block (b := b2) (o := .cells (bcs l ++ ex).toArray Ty.uint8) (by simp)
      have hsh : w.drew.shape? b2 = some (5, (bcs l ++ ex).length) := by simp [World.shape?, hblk]
      have hrun := Lib.run_unsafeString_row (P := P) w.drew 224 3 9 5 Tryz.underlying224 cells_byte b2 _ hsh l (by intro e; subst e; simp at hln'; omega) (by simp) (by omega) (fun j x hx => by
        rw [add_plain, Nat.zero_add]
        refine h1.cellH (b := b2) (c := (bcs l ++ ex).toArray) (t := Ty.uint8) (fr := (0, 0)) (by simp) ?_
        have hj := (List.getElem?_eq_some_iff.1 hx).1
        simp only [List.getElem?_toArray]
        rw [List.getElem?_append_left (by simpa using hj)]
        simp [hx])
      rw [hln'] at hrun
      refine ⟨_, _, hrun, ?_⟩
      obtain ⟨fr', hfr⟩ := freeze_blk (w := w.drew) (o := 0) (k := n) hblk
      rw [hfr]
      have h6 : Sat g w.drew ((b2, .cells (bcs l ++ ex).toArray Ty.uint8) :: ((b, bldT ty p (.slice (some ⟨b2, 0, none⟩) n c)) :: H)) := h1.perm (List.Perm.swap _ _ _)
      exact hR _ h6.set.tail

theorem c_BString {b n : Nat} {p v : Value} {l : List UInt8} (hS : Sat g w ((b, bld p v) :: (hp ++ H))) (hg : Grow Ty.uint8 1 v n (bcs l) hp) (hn : n ≤ 9223372036854775807)
    (hR : ∀ w', Sat g w' ((b, bld p v) :: H) → R (.returned (str l)) w') : Tr P F.strings_Builder_String [ptr b 0] w R :=
  gc_BString hS hg hn hR

/-- A text is written. -/
theorem gc_WriteString {ty : TypeId} (hty : Fits ty) {b n : Nat} {p v : Value} {l t : List UInt8} (hS : Sat g w ((b, bldT ty p v) :: (hp ++ H))) (hp' : Adr b p) (hg : Grow Ty.uint8 1 v n (bcs l) hp) (hn : n + t.length ≤ 140737488355328)
    (hR : ∀ v' hp' w', Grow Ty.uint8 1 v' (n + t.length) (bcs (l ++ t)) hp' → Sat g w' ((b, bldT ty (ptr b 0) v') :: (hp' ++ H)) → R (.returned (.tuple #[i64 (t.length : Int), .nilIface])) w') : Tr P F.strings_Builder_WriteString [ptr b 0, str t] w R := by
  apply t_strings_Builder_WriteString
  unfold d_strings_Builder_WriteString
  refine gc_copyCheck hty hS hp' fun w1 h1 => ?_
  simp only [↓E1, ↓E2, ↓E3, ↓h1.ld0, Nat.reduceAdd, Nat.reduceLT]
  have h3 : Sat g w1 (hp ++ ((b, bldT ty (ptr b 0) v) :: H)) := h1.perm List.perm_middle.symm
  refine Sat.ap (m := t.length) (news := bcs t) h3 hg rfl (.inr ⟨t, rfl, rfl, rfl, rfl⟩) (by simp) (allOne_byt t) (by omega) (by omega) fun v' hp2 w4 hg4 h4 => ?_
  have h5 : Sat g w4 ((b, bldT ty (ptr b 0) v) :: (hp2 ++ H)) := h4.perm List.perm_middle
  have hv : ∃ a n c, v' = .slice a n c := by rcases hg4.inv with ⟨h1, _⟩ | ⟨_, _, _, h1, _⟩ <;> exact ⟨_, _, _, h1⟩
  refine h5.st (by obtain ⟨a, n, c, rfl⟩ := hv; rfl) (by simp) (by obtain ⟨a, n, c, rfl⟩ := hv; rfl) fun w6 h6 => ?_
  refine hR v' hp2 w6 (by simpa [bcs] using hg4) ?_
  have e : wr [ptr b 0, v].toArray 1 v'.cells.toList = [ptr b 0, v'].toArray := by obtain ⟨a, n, c, rfl⟩ := hv; rfl
  rw [e] at h6
  exact h6

/-- Where a byte stands. -/
theorem c_liteIndexByte {s : List UInt8} {c : UInt8} (hR : R (.returned (i64 (idxI (idx c s)))) w) : Tr P F.internal_stringslite_IndexByte [str s, byt c] w R := by
  apply t_internal_stringslite_IndexByte
  unfold d_internal_stringslite_IndexByte
  simp only [↓E2]
  refine tr_extern (e := Extern.BytealgIndexByte.indexByte) Tryz.func127 (by kernel_rfl) (by kernel_rfl) (by kernel_rfl) (by kernel_rfl) (run_indexByte_string _ _ _) ?_
  simp only [↓E3]
  have e : firstIdx ⟨s.toArray⟩ ((c.toNat : Int).toNat.toUInt8) = idxI (idx c s) := by
    have hc : ((c.toNat : Int)).toNat.toUInt8 = c := by simp
    rw [hc]
    have hsz : (⟨s.toArray⟩ : ByteArray).size = s.length := rfl
    have key : ∀ (k i : Nat), i + k = s.length → (List.range' i k).find? (fun i => (⟨s.toArray⟩ : ByteArray)[i]! == c) = idxGo c (s.drop i) i := by
      intro k
      induction k with
      | zero => intro i hi; rw [List.drop_eq_nil_of_le (by omega)]; rfl
      | succ k ih =>
        intro i hi
        have hlt : i < s.length := by omega
        rw [List.drop_eq_getElem_cons hlt]
        have hget : (⟨s.toArray⟩ : ByteArray)[i]! = s[i] := by
          rw [getElem!_pos (⟨s.toArray⟩ : ByteArray) i (by rw [hsz]; exact hlt)]
          rfl
        simp only [List.range'_succ, List.find?_cons, idxGo, hget]
        cases (s[i] == c)
        · simp only [cond_false]; exact ih (i + 1) (by omega)
        · rfl
    have := key s.length 0 (by omega)
    unfold firstIdx idx idxI
    rw [hsz, List.range_eq_range', this]
    simp only [List.drop_zero]
    cases idxGo c s 0 <;> rfl
  rw [e]
  exact hR
theorem c_indexByte {s : List UInt8} {c : UInt8} (hR : R (.returned (i64 (idxI (idx c s)))) w) : Tr P F.strings_IndexByte [str s, byt c] w R := by
  apply t_strings_IndexByte
  unfold d_strings_IndexByte
  simp only [↓E2]
  refine c_liteIndexByte ?_
  simp only [↓E3]
  exact hR
end Go.Vx
