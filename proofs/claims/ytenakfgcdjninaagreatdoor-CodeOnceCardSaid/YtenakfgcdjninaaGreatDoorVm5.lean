/- Part 5 of the walk: a calculus of conditions over the model, and contracts of the functions of the program, in their plain form. No claim stands here. -/
import Derived.Test.YtenakfgcdjninaaGreatDoorVm4
import Derived.Lib.Bytealg
import Derived.Lib.MakeNoZero
set_option linter.unusedVariables false
set_option linter.unusedSimpArgs false
set_option linter.unusedSectionVars false
set_option linter.unnecessarySimpa false
namespace Go.Vx
open Go Go.Proofs
variable {g : G} {w : World} {H hp T : Hp}

theorem run_eq_nil_nil {P : Program} {t : TypeId} {ms : Array (String × TypeId)} (hu : P.underlying t = some (.interface ms)) (ox : Operand) (c : Value) (w : World) : (eqRun .eql t ox (.const c) .nilIface .nilIface).run P w = .ok (.bool true) w := by
  unfold eqRun
  rw [eqGuard_nil_constR]
  have h : (Op.equal t .nilIface .nilIface).run P w = .ok true w := by
    refine run_equal (fun w => run_underlying hu w) ?_
    rw [Op.equalIn]
    simp only [Sem.run_bind, run_underlying hu, Result.andThen_ok, Sem.run_pure]
  simp [binOp, h]
theorem run_eq_held_nil {P : Program} {t u : TypeId} {x : Value} {ms : Array (String × TypeId)} (hu : P.underlying t = some (.interface ms)) (ox oy : Operand) (w : World) : (eqRun .eql t ox oy (.iface u x) .nilIface).run P w = .ok (.bool false) w := by
  unfold eqRun
  simp only [Sem.run_bind]
  rw [eqGuard_plain (P := P) .eql t ox oy (.iface u x) .nilIface w (by intro a c ⟨e, _⟩; simp at e) (by rintro ⟨e, _⟩; simp at e)]
  have h : (Op.equal t (.iface u x) .nilIface).run P w = .ok false w := by
    refine run_equal (fun w => run_underlying hu w) ?_
    rw [Op.equalIn]
    simp only [Sem.run_bind, run_underlying hu, Result.andThen_ok, Sem.run_pure]
  simp [binOp, h]
theorem run_assert_struct {P : Program} {xt t : TypeId} {v : Value} {fs : Array Field} (hu : P.underlying t = some (.struct fs)) (w : World) : (Instr.typeAssert (.iface t v) xt t true).run P w = .ok (.tuple #[v, .bool true]) w := by
  unfold Instr.typeAssert
  simp only [Sem.run_bind, run_underlying hu, Result.andThen_ok]
  simp

theorem c_unit_1_nil {a0 a1 a2 : Value} {R : Ending → FrameMode → World → Prop} (hR : R (.returned (.tuple #[])) .returning w) : CallsD P F.tree_unit_1 #[a0, a1, a2] .returning w R := by
  apply t_tree_unit_1
  unfold d_tree_unit_1
  refine ⟨.bool true, fun w' => run_eq_nil_nil Tryz.underlying20 _ _ w', ?_⟩
  simp only [↓E3]
  exact hR

theorem c_unit_1_stop {b4 b5 b6 : Nat} {c : List Value} {x y : Value} {q e : Nat} {R : Ending → FrameMode → World → Prop} (hc : c.length = 6) (hS : Sat g w ((b4, box c) :: (b5, .cells [x].toArray 3) :: (b6, .cells [y].toArray 26) :: H))
    (hR : ∀ w', Sat g w' ((b4, box zN) :: (b5, .cells [i64 (q : Int)].toArray 3) :: (b6, .cells [i64 (e : Int)].toArray 26) :: H) → R (.returned (.tuple #[])) (.panicking [{ v := .iface Ty.tree_stop (.agg #[i64 (q : Int), i64 (e : Int)]), recovered := true }]) w') :
    CallsD P F.tree_unit_1 #[ptr b4 0, ptr b5 0, ptr b6 0] (.panicking (stopE q e)) w R := by
  apply t_tree_unit_1
  unfold d_tree_unit_1
  have e1 : (recV (.panicking (stopE q e))).1 = .iface Ty.tree_stop (.agg #[i64 (q : Int), i64 (e : Int)]) := rfl
  have e2 : (recV (.panicking (stopE q e))).2 = .panicking [{ v := .iface Ty.tree_stop (.agg #[i64 (q : Int), i64 (e : Int)]), recovered := true }] := rfl
  rw [e1, e2]
  refine ⟨.bool false, fun w' => run_eq_held_nil Tryz.underlying20 _ _ w', ?_⟩
  simp only [↓E3]
  refine ⟨_, fun w' => run_assert_struct Tryz.underlying99 w', ?_⟩
  simp only [↓E1, ↓E2, ↓E3]
  refine hS.al fun b w1 h1 => ?_
  refine h1.st (c := [i64 0, i64 0]) rfl (by simp) rfl fun w2 h2 => ?_
  have h2 : Sat g w2 ((b, .cells [i64 (q : Int), i64 (e : Int)].toArray 99) :: (b4, box c) :: (b5, .cells [x].toArray 3) :: (b6, .cells [y].toArray 26) :: H) := h2
  have h3 := h2.drew
  refine bdI (cs := zN) rfl ?_
  simp only [↓E1, ↓E3, ↓h3.ld0, Nat.reduceAdd, Nat.reduceLT]
  refine st_box h3.swap2 rfl hc rfl fun w4 h4 => ?_
  have h4 := h4.swap2
  refine h4.rk (b := b) (t := 99) (fr := (0, 0)) (c := [i64 (q : Int), i64 (e : Int)]) (by simp) rfl ?_
  refine h4.rk (b := b) (t := 99) (fr := (0, 0)) (c := [i64 (q : Int), i64 (e : Int)]) (by simp) rfl ?_
  have h5 := Sat.front (A := [(b, _), (b4, _)]) h4
  refine h5.st (c := [x]) rfl (by simp) rfl fun w6 h6 => ?_
  have h6 : Sat g w6 ((b5, .cells [i64 (q : Int)].toArray 3) :: (b, .cells [i64 (q : Int), i64 (e : Int)].toArray 99) :: (b4, box zN) :: (b6, .cells [y].toArray 26) :: H) := h6
  refine h6.rk (b := b) (t := 99) (fr := (0, 0)) (c := [i64 (q : Int), i64 (e : Int)]) (by simp) rfl ?_
  have h7 := Sat.front (A := [(b5, _), (b, _), (b4, _)]) h6
  refine h7.st (c := [y]) rfl (by simp) rfl fun w8 h8 => ?_
  have h8 : Sat g w8 ((b6, .cells [i64 (e : Int)].toArray 26) :: (b5, .cells [i64 (q : Int)].toArray 3) :: (b, .cells [i64 (q : Int), i64 (e : Int)].toArray 99) :: (b4, box zN) :: H) := h8
  have h9 := Sat.del (A := [(b6, _), (b5, _)]) h8
  have h10 := Sat.front (A := [(b6, _), (b5, _)]) h9
  exact hR w8 (h10.perm (.cons _ (List.Perm.swap _ _ _)))
end Go.Vx
namespace Go.Vx
open Go Go.Proofs
variable {R : Ending → World → Prop} {g : G} {w : World} {H hp T : Hp}

/-- What stands ahead of temps. -/
def HeadOK (fn : Nat) (headS : List Tok → Res Node) : Prop :=
  ∀ {p nb : Nat} {l : List Tok} {v : Value} {g : G} {w : World} {H : Hp} {R : Ending → World → Prop}, WFL l → TS g v l → Sat g w ((p, prs v 0) :: (nb, box [i64 ((12 : Nat) : Int), str [], i64 ((0 : Nat) : Int), i64 ((0 : Nat) : Int), .slice none 0 0, .slice none 0 0]) :: H) → headS l ≠ .out →
    (∀ (t : List UInt8) (nn : Nat) (names : List (List UInt8)) (l' : List Tok), headS l = .ok (.mk 12 t 0 nn names []) l' → ∀ g' v' nv hpn w', g.le g' → TS g' v' l' → WFL l' → l'.length ≤ l.length → names.length + l'.length ≤ 5000 → Grow Ty.string 1 nv names.length (names.map str) hpn →
      Sat g' w' ((p, prs v' 0) :: (nb, box [i64 ((12 : Nat) : Int), str t, i64 ((0 : Nat) : Int), i64 (nn : Int), nv, .slice none 0 0]) :: (hpn ++ H)) → R (.returned (.tuple #[])) w') →
    (∀ q e, headS l = .bad q e → ∀ g' v' d' x hpn w', g.le g' → Sat g' w' ((p, prs v' d') :: (nb, box x) :: (hpn ++ H)) → x.length = 6 → R (.panicked (stopE q e)) w') → Tr P fn [ptr p 0, ptr nb 0] w R

theorem head_parse : HeadOK F.tree_Parse_1 (fun l => .ok (.mk 12 [] 0 0 [] []) l) := by
  intro p nb l v g w H R hl hT hS _ hok _
  apply t_tree_Parse_1
  unfold d_tree_Parse_1
  have := hl.len
  exact hok [] 0 [] l rfl g v _ [] w (.refl g) hT hl (Nat.le_refl _) (by simp; omega) .nil hS

theorem settle_rec (v : Value) : settle (.panicking [{ v := v, recovered := true }]) = .returning := by simp [settle]
theorem settle_ret : settle .returning = .returning := by simp [settle]

theorem c_unit (hW : WholeOK) {s : List UInt8} {headS : List Tok → Res Node} {fn : Nat} (hhead : HeadOK fn headS) (hlen : s.length ≤ 9223372036854775807) (hS : Sat g w H)
    (hh : ∀ l, readS s = .ok l → headS l ≠ .out ∧ ∀ n l1, headS l = .ok n l1 → l1.length ≤ l.length ∧ ∃ t nn names, n = .mk 12 t 0 nn names [])
    (hok : ∀ n g' c w', unitS s headS = .ok n → g.le g' → NodeR g' c n → Sat g' w' H → R (.returned (.tuple #[.agg c.toArray, i64 0, i64 0])) w')
    (herr : ∀ (q e : Nat) g' w', unitS s headS = .error (q, e) → g.le g' → Sat g' w' H → R (.returned (.tuple #[.agg zN.toArray, i64 (q : Int), i64 (e : Int)])) w') : Tr P F.tree_unit [str s, .func (.func fn) #[] #[]] w R := by
  apply t_tree_unit
  unfold d_tree_unit
  refine hS.al fun b4 w1 h1 => h1.al fun b5 w2 h2 => h2.al fun b6 w3 h3 => ?_
  have h3 : Sat g w3 ((b6, .cells [i64 0].toArray 26) :: (b5, .cells [i64 0].toArray 3) :: (b4, box zN) :: H) := h3
  simp only [↓E2]
  refine c_Read hW h3 hlen (fun l g1 v w4 hrd hg1 h4 hT => ?_) (fun q e g1 w4 hrd hg1 h4 => ?_)
  · simp only [↓E1, ↓E2, ↓E3]
    refine h4.swap2.st (c := [i64 0]) rfl (by simp) rfl fun w5 h5 => ?_
    refine h5.swap2.st (c := [i64 0]) rfl (by simp) rfl fun w6 h6 => ?_
    have h6 : Sat g1 w6 ((b6, .cells [i64 0].toArray 26) :: (b5, .cells [i64 0].toArray 3) :: (b4, box zN) :: H) := h6
    try simp only [↓h6.ld0, ↓E1, ↓E2, ↓E3, Nat.reduceAdd, Nat.reduceLT]
    simp only [decide_true, Bool.not_true, ↓E3]
    refine ⟨_, _, _, rfl, ?_⟩
    have hl := readS_wf hrd
    obtain ⟨hho, hhl⟩ := hh l hrd
    have hone : one v = true := hT.one
    refine bdI (cs := [v, i64 0]) (by obtain ⟨a, c, rfl, _⟩ := hT; rfl) ?_
    have hz : (Value.agg [v, i64 0].toArray).cells.toList = [v, i64 0] := rfl
    rw [hz]
    refine h6.al fun p w7 h7 => ?_
    refine bdI (cs := [i64 ((12 : Nat) : Int), str [], i64 ((0 : Nat) : Int), i64 ((0 : Nat) : Int), .slice none 0 0, .slice none 0 0]) rfl ?_
    have h8 := Sat.front (A := [(p, _), (b6, _), (b5, _)]) h7
    refine st_box (c2 := zN) h8 rfl rfl rfl fun w9 h9 => ?_
    have h10 : Sat g1 w9 ((p, prs v 0) :: (b4, box [i64 ((12 : Nat) : Int), str [], i64 ((0 : Nat) : Int), i64 ((0 : Nat) : Int), .slice none 0 0, .slice none 0 0]) :: (b6, .cells [i64 0].toArray 26) :: (b5, .cells [i64 0].toArray 3) :: H) := Sat.swap2 h9
    simp only [↓E2, List.append_nil, List.nil_append]
    -- who gives up
    have stop : ∀ {g2 : G} {v' : Value} {d' : Nat} {x : List Value} {w' : World} {q e : Nat}, unitS s headS = .error (q, e) → g.le g2 → x.length = 6 → Sat g2 w' ((p, prs v' d') :: (b4, box x) :: (b6, .cells [i64 0].toArray 26) :: (b5, .cells [i64 0].toArray 3) :: H) →
        dl P { target := .fn (.func F.tree_unit_1) #[ptr b4 0, ptr b5 0, ptr b6 0], args := #[] ++ ([] : List Value).toArray } (.panicking (stopE q e)) (fun w => ldn 6 (ptr b4 0) (fun r0 w => ld (ptr b5 0) (fun r1 w => ld (ptr b6 0) (fun r2 w => R (.returned (.tuple #[r0, r1, r2])) w) w) w) w) (fun ch w => R (.panicked ch) w) w' := by
      intro g2 v' d' x w' q e hu hg2 hx h
      refine ⟨_, _, rfl, n_tree_unit_1, ?_⟩
      have h11 := Sat.tail h
      have h12 := h11.perm (.cons _ (List.Perm.swap _ _ _))
      refine c_unit_1_stop hx h12 fun w13 h13 => ?_
      simp only [settle_rec, backD]
      refine h13.ldn0 (c := zN) rfl ?_
      rw [h13.ld1 0 _ (by simp), h13.ld2 0 _ (by simp)]
      exact herr q e g2 w13 hu hg2 (h13.tail.tail.tail)
    refine hhead hl hT h10 hho (fun t nn names l1 hhd g2 v2 nv hpn w11 hg2 hT2 hl2 hle hnl hgn h11 => ?_) (fun q e hq g2 v2 d2 x hpn w11 hg2 h11 hx => ?_)
    · have hun : unitS s headS = match body (fuelOf l) 0 0 (.mk 12 t 0 nn names []) l1 with
          | .ok n _ => .ok n
          | .bad p e => .error (p, e)
          | .out => .error (0, 0) := by
        unfold unitS
        rw [hrd]
        simp only [hhd, andThen_eq_ok]
        cases body (fuelOf l) 0 0 (.mk 12 t 0 nn names []) l1 <;> rfl
      simp only [↓E3]
      have hno : body (fuelOf l) 0 0 (.mk 12 t 0 nn names []) l1 ≠ .out := (nout (fuelOf l)).body (by unfold fuelOf; omega)
      refine (allOK (fuelOf l)).2 (k := 0) (by omega) hl2 hT2 hnl hgn h11 hno (fun n l3 hb => ?_) (fun q e hb => ?_)
      · rw [hb] at hun
        intro g3 c v3 w12 hg3 hc hT3 hl3 h12
        simp only [↓E3]
        refine h12.swap2.ldn0 (c := c) hc.len.symm ?_
        refine st_box h12.swap2 hc.len hc.len hc.one fun w13 h13 => ?_
        have h14 := Sat.front (A := [(b4, _), (p, _), (b6, _)]) h13
        refine h14.st (c := [i64 0]) rfl (by simp) rfl fun w15 h15 => ?_
        have h16 := Sat.front (A := [(b5, _), (b4, _), (p, _)]) h15
        refine h16.st (c := [i64 0]) rfl (by simp) rfl fun w17 h17 => ?_
        have h17 : Sat g3 w17 ((b6, .cells [i64 0].toArray 26) :: (b5, .cells [i64 0].toArray 3) :: (b4, box c) :: (p, prs v3 0) :: H) := h17
        refine ⟨_, _, rfl, n_tree_unit_1, ?_⟩
        refine c_unit_1_nil ?_
        simp only [settle_ret, backD]
        have h18 := Sat.front (A := [(b6, _), (b5, _)]) h17
        refine h18.ldn0 (c := c) hc.len.symm ?_
        rw [h18.ld2 0 _ (by simp), h18.ld1 0 _ (by simp)]
        exact hok n g3 c w17 hun (hg1.trans (hg2.trans hg3)) hc (h18.tail.tail.tail.tail)
      · rw [hb] at hun
        intro g3 v3 d3 x w12 hg3 hx h12
        exact stop hun (hg1.trans (hg2.trans hg3)) hx h12
    · have hun : unitS s headS = .error (q, e) := by
        unfold unitS
        rw [hrd]
        simp only [hq, andThen_eq_bad]
      exact stop hun (hg1.trans hg2) hx (Sat.drop2 (A := hpn) h11)
  · have hun : unitS s headS = .error (q, e) := by
      unfold unitS
      rw [hrd]
    simp only [↓E1, ↓E2, ↓E3]
    refine h4.swap2.st (c := [i64 0]) rfl (by simp) rfl fun w5 h5 => ?_
    refine h5.swap2.st (c := [i64 0]) rfl (by simp) rfl fun w6 h6 => ?_
    have h6 : Sat g1 w6 ((b6, .cells [i64 (e : Int)].toArray 26) :: (b5, .cells [i64 (q : Int)].toArray 3) :: (b4, box zN) :: H) := h6
    try simp only [↓h6.ld0, ↓E1, ↓E2, ↓E3, Nat.reduceAdd, Nat.reduceLT]
    have he : e ≠ 0 := by
      unfold readS at hrd
      rcases cond_or hrd with ⟨_, h⟩ | ⟨_, h⟩
      · injection h with h
        injection h with _ h
        omega
      · cases hr : readGo (s.length + 1) s 0 [] with
        | ok x => rw [hr] at h; simp at h
        | error x =>
          rw [hr] at h
          injection h with h
          injection h with _ h
          omega
    rw [cnd_ndec]
    constructor
    · intro _
      have h7 := h6.drew
      refine bdI (cs := zN) rfl ?_
      simp only [↓h7.ld1, ↓h7.ld0, ↓E3, Nat.reduceAdd, Nat.reduceLT]
      have h8 := Sat.front (A := [(b6, _), (b5, _)]) h7
      refine st_box (c2 := zN) h8 rfl rfl rfl fun w9 h9 => ?_
      refine h9.rk (b := b6) (t := 26) (fr := (0, 0)) (c := [i64 (e : Int)]) (by simp) rfl ?_
      refine h9.rk (b := b5) (t := 3) (fr := (0, 0)) (c := [i64 (q : Int)]) (by simp) rfl ?_
      have h10 := Sat.front (A := [(b4, _), (b6, _)]) h9
      refine h10.st (c := [i64 (q : Int)]) rfl (by simp) rfl fun w11 h11 => ?_
      refine h11.rk (b := b6) (t := 26) (fr := (0, 0)) (c := [i64 (e : Int)]) (by simp) rfl ?_
      have h12 := Sat.front (A := [(b5, _), (b4, _)]) h11
      refine h12.st (c := [i64 (e : Int)]) rfl (by simp) rfl fun w13 h13 => ?_
      have h13 : Sat g1 w13 ((b6, .cells [i64 (e : Int)].toArray 26) :: (b5, .cells [i64 (q : Int)].toArray 3) :: (b4, box zN) :: H) := h13
      have h14 := Sat.front (A := [(b6, _), (b5, _)]) h13
      refine h14.ldn0 (c := zN) rfl ?_
      rw [h14.ld2 0 _ (by simp), h14.ld1 0 _ (by simp)]
      exact herr q e g1 w13 hun hg1 (h14.tail.tail.tail)
    · intro h
      omega
end Go.Vx
namespace Go.Vx
open Go Go.Proofs
variable {R : Ending → World → Prop} {g : G} {w : World} {H hp T : Hp}

theorem c_Parse (hW : WholeOK) {s : List UInt8} (hlen : s.length ≤ 9223372036854775807) (hS : Sat g w H)
    (hok : ∀ n g' c w', parseS s = .ok n → g.le g' → NodeR g' c n → Sat g' w' H → R (.returned (.tuple #[.agg c.toArray, i64 0, i64 0])) w')
    (herr : ∀ (q e : Nat) g' w', parseS s = .error (q, e) → g.le g' → Sat g' w' H → R (.returned (.tuple #[.agg zN.toArray, i64 (q : Int), i64 (e : Int)])) w') : Tr P F.tree_Parse [str s] w R := by
  apply t_tree_Parse
  unfold d_tree_Parse
  refine hS.al fun b2 w1 h1 => ?_
  have h1 : Sat g w1 ((b2, box zN) :: H) := h1
  simp only [↓E2]
  refine c_unit hW head_parse hlen h1 (fun l _ => ⟨by simp, fun n l1 h => ?_⟩) (fun n g1 c w2 hu hg1 hc h2 => ?_) (fun q e g1 w2 hu hg1 h2 => ?_)
  · injection h with h3 h4
    subst h4
    exact ⟨Nat.le_refl _, [], 0, [], h3.symm⟩
  · simp only [↓E2, ↓E3]
    refine st_box h2 hc.len rfl hc.one fun w3 h3 => ?_
    refine h3.ldn0 (c := c) hc.len.symm ?_
    exact hok n g1 c w3 hu hg1 hc h3.tail
  · simp only [↓E2, ↓E3]
    refine st_box (c := zN) h2 rfl rfl rfl fun w3 h3 => ?_
    refine h3.ldn0 (c := zN) rfl ?_
    exact herr q e g1 w3 hu hg1 h3.tail
end Go.Vx
namespace Go.Vx

structure Use where
  pos : Nat
  name : List UInt8
  kind : Int
  depth : Nat
  index : Nat
  write : Bool
  deriving DecidableEq

def selfT : List UInt8 := [115, 101, 108, 102]
def superT : List UInt8 := [115, 117, 112, 101, 114]
/-- What is always the same: its kind and index. -/
def fixedS (t : List UInt8) : Option (Nat × Nat) :=
  bif t == selfT then some (0, 0) else bif t == superT then some (1, 0) else bif t == nilT then some (2, 0) else bif t == falseT then some (2, 1) else bif t == trueT then some (2, 2) else none
def idxT (t : List UInt8) : List (List UInt8) → Nat → Option Nat
  | [], _ => none
  | x :: l, i => bif x == t then some i else idxT t l (i + 1)
/-- A unit's names, and how many of them are arguments. -/
structure Fr where
  names : List (List UInt8)
  n : Nat
def findF (t : List UInt8) : List Fr → Nat → Option (Nat × Nat × Bool)
  | [], _ => none
  | f :: fs, d => match idxT t f.names 0 with
    | some k => some (d, k, Nat.blt k f.n)
    | none => findF t fs (d + 1)
/-- Is it a global's name? -/
def capB : List UInt8 → Bool
  | [] => false
  | c :: _ => Nat.ble 65 c.toNat && Nat.ble c.toNat 90
/-- What a name is; is it an argument? -/
def findS (slots : List (List UInt8)) (t : List UInt8) (fs : List Fr) : Use × Bool :=
  match fixedS t with
  | some (k, i) => (⟨0, t, k, 0, i, false⟩, false)
  | none => match findF t fs 0 with
    | some (d, k, a) => (⟨0, t, 3, d, k, false⟩, a)
    | none => match idxT t slots 0 with
      | some k => (⟨0, t, 4, 0, k, false⟩, false)
      | none => (⟨0, t, bif capB t then 5 else -1, 0, 0, false⟩, false)
/-- Names that can be those of one unit. -/
def namesOK : List (List UInt8) → List (List UInt8) → Bool
  | _, [] => true
  | seen, t :: l => !((fixedS t).isSome || seen.contains t) && namesOK (seen ++ [t]) l

mutual
/-- One part: what is used (behind what was), or where a name is not known. -/
def partU (slots : List (List UInt8)) : Node → List Fr → Bool → List Use → Except Nat (List Use)
  | .mk k t p n ns ks, fs, to, acc =>
    bif Nat.beq k 5 then
      let u := (findS slots t fs).1
      bif u.kind == -1 || (u.kind == 1 && !to) then .error p else .ok (acc ++ [{ u with pos := p }])
    else bif Nat.beq k 6 then
      let u := (findS slots t fs)
      bif u.2 || (u.1.kind != 3 && u.1.kind != 4) then .error p else partsU slots ks fs false true (acc ++ [{ u.1 with pos := p, write := true }])
    else bif Nat.beq k 10 then
      bif namesOK [] ns then partsU slots ks (⟨ns, n⟩ :: fs) false true acc else .error p
    else partsU slots ks fs (Nat.beq k 7 || Nat.beq k 8) true acc
/-- Parts, one behind the other; the first one may be a receiver. -/
def partsU (slots : List (List UInt8)) : List Node → List Fr → Bool → Bool → List Use → Except Nat (List Use)
  | [], _, _, _, acc => .ok acc
  | k :: ks, fs, rcv, first, acc => match partU slots k fs (rcv && first) acc with
    | .error p => .error p
    | .ok acc' => partsU slots ks fs rcv false acc'
end
def resolveS (slots : List (List UInt8)) : Node → Except Nat (List Use)
  | .mk _ _ p n ns ks => bif namesOK [] ns then partsU slots ks [⟨ns, n⟩] false true [] else .error p
end Go.Vx
namespace Go.Vx

/-- What holds of all parts holds of a tree. -/
theorem Node.ind {M : Node → Prop} (h : ∀ k t p n ns ks, (∀ x ∈ ks, M x) → M (.mk k t p n ns ks)) (n : Node) : M n :=
  Node.rec (motive_1 := M) (motive_2 := fun ks => ∀ x ∈ ks, M x) (fun k t p n ns ks ih => h k t p n ns ks ih) (fun x hx => by simp at hx)
    (fun k ks h1 h2 x hx => by
      rcases List.mem_cons.1 hx with e | hx
      · rw [e]; exact h1
      · exact h2 x hx) n

/-- How great names, words are. -/
def nsM : List (List UInt8) → Nat
  | [] => 0
  | t :: l => 1 + t.length + nsM l
def tm : List Tok → Nat
  | [] => 0
  | t :: l => 1 + t.text.length + tm l
mutual
def msr : Node → Nat
  | .mk _ t _ _ ns ks => 1 + t.length + nsM ns + msrs ks
def msrs : List Node → Nat
  | [] => 0
  | k :: ks => msr k + msrs ks
end
theorem nsM_app (a b : List (List UInt8)) : nsM (a ++ b) = nsM a + nsM b := by
  induction a with
  | nil => simp [nsM]
  | cons x a ih => simp only [List.cons_append, nsM, ih]; omega
theorem msrs_app (a b : List Node) : msrs (a ++ b) = msrs a + msrs b := by
  induction a with
  | nil => simp [msrs]
  | cons x a ih => simp only [List.cons_append, msrs, ih]; omega
theorem len_nsM (a : List (List UInt8)) : a.length ≤ nsM a := by
  induction a with
  | nil => exact Nat.le_refl _
  | cons x a ih => simp only [List.length_cons, nsM]; omega
theorem msr_pos (n : Node) : 1 ≤ msr n := by cases n; simp only [msr]; omega
theorem len_msrs (a : List Node) : a.length ≤ msrs a := by
  induction a with
  | nil => exact Nat.le_refl _
  | cons x a ih => have := msr_pos x; simp only [List.length_cons, msrs]; omega
theorem msr_mem {a : List Node} {x : Node} (h : x ∈ a) : msr x ≤ msrs a := by
  induction a with
  | nil => simp at h
  | cons y a ih =>
    simp only [msrs]
    rcases List.mem_cons.1 h with e | h
    · rw [e]; omega
    · have := ih h; omega

theorem tm_tk {l : List Tok} {k : Nat} (h : Nat.beq (kd l) k = true) (hk : k ≠ 0) : tm (tk l) + 1 + (hd l).text.length = tm l := by
  have h := Nat.eq_of_beq_eq_true h
  have hb : Nat.beq (kd l) 0 = false := by
    cases hb : Nat.beq (kd l) 0 with
    | false => rfl
    | true => have := Nat.eq_of_beq_eq_true hb; omega
  unfold tk
  rw [hb]
  cases l with
  | nil => simp [kd, hd] at h; omega
  | cons t l => simp only [cond_false, List.tail_cons, tm, hd, List.headD_cons]; omega
theorem tm_tk_le (l : List Tok) : tm (tk l) ≤ tm l := by
  unfold tk
  cases Nat.beq (kd l) 0
  · cases l with
    | nil => exact Nat.le_refl _
    | cons t l => simp only [cond_false, List.tail_cons, tm]; omega
  · exact Nat.le_refl _
theorem tm_le {l : List Tok} {b : Nat} (h : ∀ t ∈ l, t.text.length ≤ b) : tm l ≤ l.length * (b + 1) := by
  induction l with
  | nil => simp [tm]
  | cons t l ih =>
    have h1 := ih (fun t ht => h t (by simp [ht]))
    have h2 := h t (by simp)
    simp only [tm, List.length_cons, Nat.succ_mul]
    omega

/-! ### Shapes -/
inductive LitN : Node → Prop
  | leaf {k p n : Nat} {t : List UInt8} (h : k = 1 ∨ k = 2 ∨ k = 3 ∨ k = 13) : LitN (.mk k t p n [] [])
  | list {p n : Nat} {t : List UInt8} {ks : List Node} (h : ∀ k ∈ ks, LitN k) : LitN (.mk 4 t p n [] ks)
mutual
inductive OkE : Node → Prop
  | leaf {k p : Nat} {t : List UInt8} (h : k = 1 ∨ k = 2 ∨ k = 3) : OkE (.mk k t p 0 [] [])
  | list {p : Nat} {ks : List Node} (h : ∀ k ∈ ks, LitN k) : OkE (.mk 4 [] p 0 [] ks)
  | var {p : Nat} {t : List UInt8} : OkE (.mk 5 t p 0 [] [])
  | set {p : Nat} {t : List UInt8} {e : Node} (h : OkE e) : OkE (.mk 6 t p 0 [] [e])
  | send {p : Nat} {t : List UInt8} {r : Node} {ks : List Node} (h1 : OkE r) (h2 : ∀ k ∈ ks, OkE k) : OkE (.mk 7 t p 0 [] (r :: ks))
  | casc {p : Nat} {r : Node} {ms : List Node} (h1 : OkE r) (h2 : ms ≠ []) (h3 : ∀ m ∈ ms, OkM m) : OkE (.mk 8 [] p 0 [] (r :: ms))
  | blk {p n : Nat} {ns : List (List UInt8)} {ks : List Node} (h1 : n ≤ ns.length) (h2 : ∀ k ∈ ks, OkS k) : OkE (.mk 10 [] p n ns ks)
inductive OkM : Node → Prop
  | mk {p : Nat} {t : List UInt8} {ks : List Node} (h : ∀ k ∈ ks, OkE k) : OkM (.mk 9 t p 0 [] ks)
inductive OkS : Node → Prop
  | expr {n : Node} (h : OkE n) : OkS n
  | ret {p : Nat} {e : Node} (h : OkE e) : OkS (.mk 11 [] p 0 [] [e])
end
/-- A unit: of a source to be run, or of a method. -/
inductive OkU : Node → Prop
  | mk {p n : Nat} {t : List UInt8} {ns : List (List UInt8)} {ks : List Node} (h1 : n ≤ ns.length) (h2 : ∀ k ∈ ks, OkS k) : OkU (.mk 12 t p n ns ks)

theorem all_snoc {P : Node → Prop} {ks : List Node} {k : Node} (h : ∀ x ∈ ks, P x) (hk : P k) : ∀ x ∈ ks ++ [k], P x := fun x hx => by
  rcases List.mem_append.1 hx with h1 | h1
  · exact h x h1
  · rw [List.mem_singleton.1 h1]; exact hk

structure Shape (f : Nat) : Prop where
  expr : ∀ {d l n l'}, expr f d l = .ok n l' → OkE n ∧ msr n + tm l' ≤ tm l
  casc : ∀ {d l n l'}, casc f d l = .ok n l' → OkE n ∧ msr n + tm l' ≤ tm l
  cascL : ∀ {d p r ms l n l'}, cascL f d p (r :: ms) l = .ok n l' → OkE r → (∀ m ∈ ms, OkM m) → ms ≠ [] → OkE n ∧ msr n + tm l' ≤ 1 + msr r + msrs ms + tm l ∧ (Nat.beq (kd l) 15 = true → msr n + tm l' + 1 ≤ 1 + msr r + msrs ms + tm l)
  msg : ∀ {d l n l'}, msg f d l = .ok n l' → OkM n ∧ msr n + tm l' ≤ tm l
  msgL : ∀ {d p t ks l n l'}, msgL f d p t ks l = .ok n l' → (∀ k ∈ ks, OkE k) → OkM n ∧ msr n + tm l' ≤ 1 + t.length + msrs ks + tm l ∧ (Nat.beq (kd l) 2 = true → msr n + tm l' + 1 ≤ 1 + t.length + msrs ks + tm l)
  chainL : ∀ {d k o n p l x l'}, chainL f d k o n p l = .ok x l' → OkE n → OkE x.1 ∧ msr x.1 + tm l' ≤ msr n + tm l
  keyed : ∀ {d l x l'}, keyed f d l = .ok x l' → OkE x.1 ∧ msr x.1 + tm l' ≤ tm l
  binary : ∀ {d l x l'}, binary f d l = .ok x l' → OkE x.1 ∧ msr x.1 + tm l' ≤ tm l
  unary : ∀ {d l x l'}, unary f d l = .ok x l' → OkE x.1 ∧ msr x.1 + tm l' ≤ tm l
  prim : ∀ {d l x l'}, prim f d l = .ok x l' → OkE x.1 ∧ msr x.1 + tm l' ≤ tm l
  lst : ∀ {d l n l'}, lst f d l = .ok n l' → (Nat.beq (kd l) 17 = true ∨ Nat.beq (kd l) 8 = true) → OkE n ∧ LitN n ∧ msr n + tm l' ≤ tm l
  lstL : ∀ {d p ks l n l'}, lstL f d p ks l = .ok n l' → (∀ k ∈ ks, LitN k) → OkE n ∧ LitN n ∧ msr n + tm l' ≤ 1 + msrs ks + tm l
  elem : ∀ {d l n l'}, elem f d l = .ok n l' → LitN n ∧ msr n + tm l' ≤ tm l
  blk : ∀ {d l n l'}, blk f d l = .ok n l' → Nat.beq (kd l) 10 = true → OkE n ∧ msr n + tm l' ≤ tm l
  blkN : ∀ {d p ns l n l'}, blkN f d p ns l = .ok n l' → OkE n ∧ msr n + tm l' ≤ 1 + nsM ns + tm l
  body : ∀ {d k k0 t p n ns ks l n' l'}, body f d k (.mk k0 t p n ns ks) l = .ok n' l' → (∀ k ∈ ks, OkS k) → ∃ ns' ks', n' = .mk k0 t p n (ns ++ ns') ks' ∧ (∀ k ∈ ks', OkS k) ∧ msr n' + tm l' ≤ msr (.mk k0 t p n ns ks) + tm l
  bodyN : ∀ {d k k0 t p n ns ks l n' l'}, bodyN f d k (.mk k0 t p n ns ks) l = .ok n' l' → (∀ k ∈ ks, OkS k) → ∃ ns' ks', n' = .mk k0 t p n (ns ++ ns') ks' ∧ (∀ k ∈ ks', OkS k) ∧ msr n' + tm l' ≤ msr (.mk k0 t p n ns ks) + tm l
  bodyL : ∀ {d k k0 t p n ns ks l n' l'}, bodyL f d k (.mk k0 t p n ns ks) l = .ok n' l' → (∀ k ∈ ks, OkS k) → ∃ ns' ks', n' = .mk k0 t p n (ns ++ ns') ks' ∧ (∀ k ∈ ks', OkS k) ∧ msr n' + tm l' ≤ msr (.mk k0 t p n ns ks) + tm l
  stmt : ∀ {d l x l'}, stmt f d l = .ok x l' → OkS x.1 ∧ msr x.1 + tm l' ≤ tm l

theorem leaf_shape {k j : Nat} {l : List Tok} {n : Node} {l' : List Tok} (h : leaf k l = .ok n l') (hj : Nat.beq (kd l) j = true) (h0 : j ≠ 0) : n = .mk k (hd l).text (hd l).pos 0 [] [] ∧ msr n + tm l' ≤ tm l := by
  unfold leaf at h
  injection h with h1 h2
  subst h1 h2
  have := tm_tk hj h0
  exact ⟨rfl, by simp only [msr, nsM, msrs]; omega⟩

theorem msr_send {n m : Node} (hn : OkE n) (hm : OkM m) : OkE (sendN n m) ∧ msr (sendN n m) ≤ msr n + msr m := by
  cases hm with
  | mk h => exact ⟨.send hn h, by simp only [sendN, msr, nsM, msrs, Node.text, Node.pos, Node.kids]; omega⟩

theorem shape : ∀ f, Shape f := by
  intro f
  induction f with
  | zero => constructor <;> intros <;> simp_all [expr, casc, cascL, msg, msgL, chainL, keyed, binary, unary, prim, lst, lstL, elem, blk, blkN, body, bodyN, bodyL, stmt]
  | succ f ih =>
    constructor
    · intro d l n l' h
      simp only [expr] at h
      rcases cond_or h with ⟨h1, h2⟩ | ⟨_, h2⟩
      · rw [Bool.and_eq_true] at h1
        obtain ⟨_, h3⟩ := within_ok h2
        obtain ⟨e, l2, h4, h5⟩ := andThen_ok h3
        injection h5 with h5 h6
        subst h5 h6
        have h7 := ih.expr h4
        have h8 := tm_tk h1.1 (by decide)
        have h9 := tm_tk_le (tk l)
        exact ⟨.set h7.1, by simp only [msr, nsM, msrs]; omega⟩
      · exact ih.casc h2
    · intro d l n l' h
      simp only [casc] at h
      obtain ⟨x, l1, h1, h2⟩ := andThen_ok h
      have h3 := ih.keyed h1
      rcases cond_or h2 with ⟨hb, h4⟩ | ⟨_, h4⟩
      · rcases cond_or h4 with ⟨hc, h5⟩ | ⟨_, h5⟩
        · rw [Bool.and_eq_true] at hc
          obtain ⟨⟨k, t, p, n0, ns, ks⟩, pl⟩ := x
          have hk : k = 7 := Nat.eq_of_beq_eq_true hc.1
          subst hk
          obtain ⟨h6, h7⟩ := h3
          cases h6 with
          | leaf h => omega
          | @send _ _ r ks h8 h9 =>
            have h10 := ih.cascL h5 h8 (fun m hm => by
              rw [List.mem_singleton.1 hm]
              exact .mk h9) (by simp)
            refine ⟨h10.1, ?_⟩
            have h11 := h10.2.2 hb
            simp only [msr, nsM, msrs, Node.text, Node.pos, Node.kids, List.headD_cons, List.tail_cons] at h11 h7
            omega
        · simp [syn] at h5
      · injection h4 with h4 h5
        subst h4 h5
        exact h3
    · intro d p r ms l n l' h hr hm hne
      simp only [cascL] at h
      rcases cond_or h with ⟨h1, h2⟩ | ⟨h1, h2⟩
      · obtain ⟨m, l1, h3, h4⟩ := andThen_ok h2
        have h5 := ih.msg h3
        have h6 := ih.cascL (ms := ms ++ [m]) h4 hr (all_snoc hm h5.1) (by simp)
        have h7 := tm_tk h1 (by decide)
        rw [msrs_app] at h6
        simp only [msrs] at h6
        exact ⟨h6.1, by omega, fun _ => by omega⟩
      · injection h2 with h2 h3
        subst h2 h3
        refine ⟨.casc hr hne hm, ?_, fun h => ?_⟩
        · simp only [msr, nsM, msrs, List.length_nil]; omega
        · rw [h] at h1; simp at h1
    · intro d l n l' h
      simp only [msg] at h
      rcases cond_or h with ⟨h1, h2⟩ | ⟨_, h2⟩
      · injection h2 with h2 h3
        subst h2 h3
        have := tm_tk h1 (by decide)
        exact ⟨.mk (by simp), by simp only [msr, nsM, msrs]; omega⟩
      · rcases cond_or h2 with ⟨h1, h2⟩ | ⟨_, h2⟩
        · obtain ⟨x, l1, h3, h4⟩ := andThen_ok h2
          injection h4 with h4 h5
          subst h4 h5
          have h6 := ih.unary h3
          have h7 := tm_tk h1 (by decide)
          exact ⟨.mk (by intro k hk; rw [List.mem_singleton.1 hk]; exact h6.1), by simp only [msr, nsM, msrs]; omega⟩
        · rcases cond_or h2 with ⟨h1, h2⟩ | ⟨_, h2⟩
          · have := ih.msgL h2 (by simp)
            have h3 := this.2.2 h1
            simp only [msrs, List.length_nil] at h3
            exact ⟨this.1, by omega⟩
          · simp [syn] at h2
    · intro d p t ks l n l' h hks
      simp only [msgL] at h
      rcases cond_or h with ⟨h1, h2⟩ | ⟨h1, h2⟩
      · obtain ⟨x, l1, h3, h4⟩ := andThen_ok h2
        have h5 := ih.binary h3
        have h6 := ih.msgL h4 (all_snoc hks h5.1)
        have h7 := tm_tk h1 (by decide)
        rw [msrs_app, List.length_append] at h6
        simp only [msrs] at h6
        exact ⟨h6.1, by omega, fun _ => by omega⟩
      · injection h2 with h2 h3
        subst h2 h3
        exact ⟨.mk hks, by simp only [msr, nsM]; omega, fun h => by rw [h] at h1; simp at h1⟩
    · intro d k o n p l x l' h hn
      simp only [chainL] at h
      rcases cond_or h with ⟨h1, h2⟩ | ⟨h1, h2⟩
      · obtain ⟨m, l1, h3, h4⟩ := andThen_ok h2
        have h5 := ih.msg h3
        have h8 := msr_send hn h5.1
        rcases cond_or h4 with ⟨_, h6⟩ | ⟨_, h6⟩
        · injection h6 with h6 h7
          subst h6 h7
          exact ⟨h8.1, by simp only []; omega⟩
        · have := ih.chainL h6 h8.1
          exact ⟨this.1, by omega⟩
      · injection h2 with h2 h3
        subst h2 h3
        exact ⟨hn, Nat.le_refl _⟩
    · intro d l x l' h
      simp only [keyed] at h
      obtain ⟨y, l1, h1, h2⟩ := andThen_ok h
      have h3 := ih.binary h1
      have h4 := ih.chainL h2 h3.1
      exact ⟨h4.1, by omega⟩
    · intro d l x l' h
      simp only [binary] at h
      obtain ⟨y, l1, h1, h2⟩ := andThen_ok h
      have h3 := ih.unary h1
      have h4 := ih.chainL h2 h3.1
      exact ⟨h4.1, by omega⟩
    · intro d l x l' h
      simp only [unary] at h
      obtain ⟨y, l1, h1, h2⟩ := andThen_ok h
      have h3 := ih.prim h1
      have h4 := ih.chainL h2 h3.1
      exact ⟨h4.1, by omega⟩
    · intro d l x l' h
      simp only [prim] at h
      have lf : ∀ k j, ((leaf k l).andThen fun n l1 => Res.ok (n, true) l1) = .ok x l' → Nat.beq (kd l) j = true → j ≠ 0 → (k = 5 ∨ k = 1 ∨ k = 2 ∨ k = 3) → OkE x.1 ∧ msr x.1 + tm l' ≤ tm l := by
        intro k j h hj h0 hk
        obtain ⟨n, l1, h1, h2⟩ := andThen_ok h
        injection h2 with h2 h3
        subst h2 h3
        obtain ⟨h4, h5⟩ := leaf_shape h1 hj h0
        refine ⟨?_, h5⟩
        rw [h4]
        rcases hk with rfl | hk
        · exact .var
        · exact .leaf hk
      rcases cond_or h with ⟨h1, h2⟩ | ⟨_, h⟩
      · exact lf _ _ h2 h1 (by decide) (by decide)
      rcases cond_or h with ⟨h1, h2⟩ | ⟨_, h⟩
      · exact lf _ _ h2 h1 (by decide) (by decide)
      rcases cond_or h with ⟨h1, h2⟩ | ⟨_, h⟩
      · exact lf _ _ h2 h1 (by decide) (by decide)
      rcases cond_or h with ⟨h1, h2⟩ | ⟨_, h⟩
      · exact lf _ _ h2 h1 (by decide) (by decide)
      rcases cond_or h with ⟨h1, h2⟩ | ⟨_, h⟩
      · obtain ⟨n, l1, h3, h4⟩ := andThen_ok h2
        injection h4 with h4 h5
        subst h4 h5
        have := ih.lst h3 (.inl h1)
        exact ⟨this.1, this.2.2⟩
      rcases cond_or h with ⟨h1, h2⟩ | ⟨_, h⟩
      · obtain ⟨n, l1, h3, h4⟩ := andThen_ok h2
        injection h4 with h4 h5
        subst h4 h5
        exact ih.blk h3 h1
      rcases cond_or h with ⟨h1, h2⟩ | ⟨_, h⟩
      · obtain ⟨_, h3⟩ := within_ok h2
        obtain ⟨e, l2, h4, h5⟩ := andThen_ok h3
        obtain ⟨t, l3, h6, h7⟩ := andThen_ok h5
        injection h7 with h7 h8
        subst h7 h8
        have h9 := ih.expr h4
        have h10 := need_ok h6
        have h11 := tm_tk_le l
        have h12 := tm_tk_le l2
        rw [← h10.2.2] at h12
        exact ⟨h9.1, by simp only []; omega⟩
      · simp [syn] at h
    · intro d l n l' h hk
      simp only [lst] at h
      obtain ⟨_, h3⟩ := within_ok h
      have h4 := ih.lstL h3 (by simp)
      have h11 : tm (tk l) + 1 ≤ tm l := by
        rcases hk with hk | hk
        · have := tm_tk hk (by decide); omega
        · have := tm_tk hk (by decide); omega
      simp only [msrs] at h4
      exact ⟨h4.1, h4.2.1, by omega⟩
    · intro d p ks l n l' h hks
      simp only [lstL] at h
      rcases cond_or h with ⟨h1, h2⟩ | ⟨h1, h2⟩
      · injection h2 with h2 h3
        subst h2 h3
        have := tm_tk_le l
        exact ⟨.list hks, .list hks, by simp only [msr, nsM, List.length_nil]; omega⟩
      · obtain ⟨e, l1, h3, h4⟩ := andThen_ok h2
        have h5 := ih.elem h3
        have h6 := ih.lstL h4 (all_snoc hks h5.1)
        rw [msrs_app] at h6
        simp only [msrs] at h6
        exact ⟨h6.1, h6.2.1, by omega⟩
    · intro d l n l' h
      simp only [elem] at h
      have lf : ∀ k j, leaf k l = .ok n l' → Nat.beq (kd l) j = true → j ≠ 0 → (k = 1 ∨ k = 2 ∨ k = 3 ∨ k = 13) → LitN n ∧ msr n + tm l' ≤ tm l := by
        intro k j h hj h0 hk
        obtain ⟨h4, h5⟩ := leaf_shape h hj h0
        refine ⟨?_, h5⟩
        rw [h4]
        exact .leaf hk
      rcases cond_or h with ⟨h1, h2⟩ | ⟨_, h⟩
      · rw [Bool.or_eq_true] at h1
        exact (ih.lst h2 h1).2
      rcases cond_or h with ⟨h1, h2⟩ | ⟨_, h⟩
      · exact lf _ _ h2 h1 (by decide) (by decide)
      rcases cond_or h with ⟨h1, h2⟩ | ⟨_, h⟩
      · exact lf _ _ h2 h1 (by decide) (by decide)
      rcases cond_or h with ⟨h1, h2⟩ | ⟨_, h⟩
      · refine lf _ _ h2 h1 (by decide) ?_
        cases (hd l).text == trueT || ((hd l).text == falseT || (hd l).text == nilT) <;> decide
      rcases cond_or h with ⟨h1, h2⟩ | ⟨_, h⟩
      · rw [Bool.or_eq_true, Bool.or_eq_true] at h1
        rcases h1 with h1 | h1 | h1
        · exact lf _ _ h2 h1 (by decide) (by decide)
        · exact lf _ _ h2 h1 (by decide) (by decide)
        · exact lf _ _ h2 h1 (by decide) (by decide)
      · simp [syn] at h
    · intro d l n l' h hk
      simp only [blk] at h
      obtain ⟨_, h3⟩ := within_ok h
      have h4 := ih.blkN h3
      have h11 := tm_tk hk (by decide)
      simp only [nsM] at h4
      exact ⟨h4.1, by omega⟩
    · intro d p ns l n l' h
      simp only [blkN] at h
      have done : ∀ {l1 n l2 l'}, body f d 11 (.mk 10 [] p ns.length ns []) l1 = .ok n l2 → l' = tk l2 → tm l1 ≤ tm l → OkE n ∧ msr n + tm l' ≤ 1 + nsM ns + tm l := by
        intro l1 n l2 l' h he hl
        obtain ⟨ns', ks', h1, h2, h3⟩ := ih.body h (by simp)
        have h4 := tm_tk_le l2
        rw [← he] at h4
        simp only [msr, msrs, List.length_nil] at h3
        refine ⟨?_, by omega⟩
        rw [h1]
        exact .blk (by simp) h2
      rcases cond_or h with ⟨h1, h2⟩ | ⟨h1, h⟩
      · obtain ⟨t, l1, h3, h4⟩ := andThen_ok h2
        have h5 := need_ok h3
        have h6 := ih.blkN h4
        have h7 := tm_tk_le l
        have h8 := tm_tk h5.1 (by decide)
        rw [← h5.2.2, ← h5.2.1] at h8
        rw [nsM_app] at h6
        simp only [nsM] at h6
        exact ⟨h6.1, by omega⟩
      rcases cond_or h with ⟨h1, h2⟩ | ⟨h1, h⟩
      · obtain ⟨t, l1, h3, h4⟩ := andThen_ok h2
        obtain ⟨m, l2, h6, h7⟩ := andThen_ok h4
        injection h7 with h7 h8
        subst h7
        have h5 := need_ok h3
        have h10 := tm_tk_le l
        rw [← h5.2.2] at h10
        exact done h6 h8.symm h10
      · obtain ⟨m, l2, h6, h7⟩ := andThen_ok h
        injection h7 with h7 h8
        subst h7
        exact done h6 h8.symm (Nat.le_refl _)
    · intro d k k0 t p n ns ks l n' l' h hks
      simp only [body] at h
      rcases cond_or h with ⟨h1, h2⟩ | ⟨h1, h⟩
      · obtain ⟨ns', ks', h3, h4, h5⟩ := ih.bodyN h2 hks
        have h10 := tm_tk_le l
        exact ⟨ns', ks', h3, h4, by omega⟩
      · exact ih.bodyL h hks
    · intro d k k0 t p n ns ks l n' l' h hks
      simp only [bodyN] at h
      rcases cond_or h with ⟨h1, h2⟩ | ⟨h1, h⟩
      · obtain ⟨ns', ks', h3, h4, h5⟩ := ih.bodyN (ns := ns ++ [(hd l).text]) h2 hks
        have h10 := tm_tk h1 (by decide)
        refine ⟨[(hd l).text] ++ ns', ks', by rw [h3, List.append_assoc]; rfl, h4, ?_⟩
        simp only [msr, nsM_app, nsM, Node.text, Node.kids] at h5 ⊢
        omega
      · obtain ⟨t, l1, h3, h4⟩ := andThen_ok h
        have h5 := need_ok h3
        obtain ⟨ns', ks', h6, h7, h8⟩ := ih.bodyL h4 hks
        have h10 := tm_tk_le l
        rw [← h5.2.2] at h10
        exact ⟨ns', ks', h6, h7, by omega⟩
    · intro d k k0 t p n ns ks l n' l' h hks
      simp only [bodyL] at h
      have add : ∀ x : Node, addKid (.mk k0 t p n ns ks) x = .mk k0 t p n ns (ks ++ [x]) := fun _ => rfl
      rcases cond_or h with ⟨h1, h2⟩ | ⟨h1, h2⟩
      · injection h2 with h2 h3
        subst h2 h3
        exact ⟨[], ks, by rw [List.append_nil], hks, Nat.le_refl _⟩
      · obtain ⟨x, l1, h3, h4⟩ := andThen_ok h2
        have h5 := ih.stmt h3
        rw [add] at h4
        rcases cond_or h4 with ⟨h6, h7⟩ | ⟨_, h7⟩
        · obtain ⟨ns', ks', h8, h9, h10⟩ := ih.bodyL h7 (all_snoc hks h5.1)
          have h11 := tm_tk_le l1
          refine ⟨ns', ks', h8, h9, ?_⟩
          simp only [msr, msrs_app, msrs] at h10 ⊢
          omega
        · have h10 : tm (bif Nat.beq (kd l1) 14 then tk l1 else l1) ≤ tm l1 := by
            cases Nat.beq (kd l1) 14
            · exact Nat.le_refl _
            · exact tm_tk_le l1
          rcases cond_or h7 with ⟨h8, h9⟩ | ⟨_, h9⟩
          · injection h9 with h9 h11
            subst h9 h11
            refine ⟨[], ks ++ [x.1], by rw [List.append_nil], all_snoc hks h5.1, ?_⟩
            simp only [msr, msrs_app, msrs]
            omega
          · simp [syn] at h9
    · intro d l x l' h
      simp only [stmt] at h
      rcases cond_or h with ⟨h1, h2⟩ | ⟨h1, h⟩
      · obtain ⟨e, l1, h3, h4⟩ := andThen_ok h2
        injection h4 with h4 h5
        subst h4 h5
        have h6 := ih.expr h3
        have h10 := tm_tk h1 (by decide)
        exact ⟨.ret h6.1, by simp only [msr, nsM, msrs, List.length_nil]; omega⟩
      · obtain ⟨e, l1, h3, h4⟩ := andThen_ok h
        injection h4 with h4 h5
        subst h4 h5
        have h6 := ih.expr h3
        exact ⟨.expr h6.1, h6.2⟩
end Go.Vx
namespace Go.Vx

/-- What words say. -/
def wv : List Nat → Nat
  | [] => 0
  | x :: l => x + 4294967296 * wv l

theorem wv_append (a b : List Nat) : wv (a ++ b) = wv a + 4294967296 ^ a.length * wv b := by
  induction a with
  | nil => simp [wv]
  | cons x a ih =>
    simp only [List.cons_append, wv, ih, List.length_cons, Nat.pow_succ]
    rw [Nat.mul_add, Nat.add_assoc, Nat.mul_comm (4294967296 ^ a.length) 4294967296, Nat.mul_assoc]

theorem wv_zeros (n : Nat) : wv (List.replicate n 0) = 0 := by
  induction n with
  | zero => rfl
  | succ n ih => simp [List.replicate_succ, wv, ih]

theorem wv_snoc (a : List Nat) (x : Nat) : wv (a ++ [x]) = wv a + 4294967296 ^ a.length * x := by
  rw [wv_append]; simp [wv]

theorem wv_take_succ {a : List Nat} {i x : Nat} (h : a[i]? = some x) : wv (a.take (i + 1)) = wv (a.take i) + 4294967296 ^ i * x := by
  have hi := (List.getElem?_eq_some_iff.1 h).1
  rw [List.take_add_one, h]
  simp only [Option.toList_some]
  rw [wv_snoc, List.length_take, Nat.min_eq_left (by omega)]

theorem wv_set {a : List Nat} {i x : Nat} (y : Nat) (h : a[i]? = some x) : wv (a.set i y) + 4294967296 ^ i * x = wv a + 4294967296 ^ i * y := by
  induction a generalizing i with
  | nil => simp at h
  | cons z a ih =>
    cases i with
    | zero =>
      simp at h
      subst h
      simp only [List.set_cons_zero, wv, Nat.pow_zero, Nat.one_mul]
      omega
    | succ i =>
      have := ih (i := i) (by simpa using h)
      simp only [List.set_cons_succ, wv, Nat.pow_succ]
      have e1 : 4294967296 ^ i * 4294967296 * x = 4294967296 * (4294967296 ^ i * x) := by rw [Nat.mul_comm (4294967296 ^ i), Nat.mul_assoc]
      have e2 : 4294967296 ^ i * 4294967296 * y = 4294967296 * (4294967296 ^ i * y) := by rw [Nat.mul_comm (4294967296 ^ i), Nat.mul_assoc]
      rw [e1, e2]
      omega

/-- Each is a word. -/
def W32 (a : List Nat) : Prop := ∀ x ∈ a, x < 4294967296
theorem W32.nil : W32 [] := fun x h => by simp at h
theorem W32.at {a : List Nat} (h : W32 a) {i x : Nat} (hx : a[i]? = some x) : x < 4294967296 := h x (List.mem_of_getElem? hx)
theorem W32.set {a : List Nat} (h : W32 a) {i y : Nat} (hy : y < 4294967296) : W32 (a.set i y) := fun x hx => by
  rcases List.mem_or_eq_of_mem_set hx with h1 | h1
  · exact h x h1
  · rw [h1]; exact hy
theorem W32.take {a : List Nat} (h : W32 a) (n : Nat) : W32 (a.take n) := fun x hx => h x (List.mem_of_mem_take hx)
theorem W32.zeros (n : Nat) : W32 (List.replicate n 0) := fun x hx => by rw [List.eq_of_mem_replicate hx]; decide
theorem W32.append {a b : List Nat} (h : W32 a) (k : W32 b) : W32 (a ++ b) := fun x hx => by
  rcases List.mem_append.1 hx with h1 | h1
  · exact h x h1
  · exact k x h1

theorem wv_lt {a : List Nat} (h : W32 a) : wv a < 4294967296 ^ a.length := by
  induction a with
  | nil => simp [wv]
  | cons x a ih =>
    have h1 := ih (fun y hy => h y (by simp [hy]))
    have h2 := h x (by simp)
    simp only [wv, List.length_cons, Nat.pow_succ]
    omega

/-- How many words are left without noughts at the end. -/
def trimN (a : List Nat) : Nat → Nat
  | 0 => 0
  | n + 1 => bif Nat.beq (a.getD n 0) 0 then trimN a n else n + 1
theorem trimN_le (a : List Nat) (n : Nat) : trimN a n ≤ n := by
  induction n with
  | zero => exact Nat.le_refl _
  | succ n ih =>
    simp only [trimN]
    cases Nat.beq (a.getD n 0) 0
    · exact Nat.le_refl _
    · exact Nat.le_succ_of_le ih
theorem wv_trim (a : List Nat) {n : Nat} (hn : n ≤ a.length) : wv (a.take (trimN a n)) = wv (a.take n) := by
  induction n with
  | zero => rfl
  | succ n ih =>
    simp only [trimN]
    cases h : Nat.beq (a.getD n 0) 0
    · rfl
    · have h0 : a[n]? = some 0 := by
        have := Nat.eq_of_beq_eq_true h
        rw [List.getD_eq_getElem?_getD] at this
        rw [List.getElem?_eq_getElem (by omega)] at this ⊢
        simpa using this
      rw [wv_take_succ h0]
      simpa using ih (by omega)

/-- Without noughts at the end. -/
def Trimmed (a : List Nat) : Prop := ∀ x, a.getLast? = some x → x ≠ 0
theorem Trimmed.nil : Trimmed [] := fun x h => by simp at h
theorem trim_trimmed (a : List Nat) {n : Nat} (hn : n ≤ a.length) : Trimmed (a.take (trimN a n)) := by
  induction n with
  | zero => exact fun x h => by simp [trimN] at h
  | succ n ih =>
    simp only [trimN]
    cases h : Nat.beq (a.getD n 0) 0
    · simp only [cond_false]
      intro x hx hx0
      subst hx0
      have hg : a.getD n 0 = 0 := by
        rw [List.getLast?_eq_getElem?, List.length_take, Nat.min_eq_left hn, Nat.add_sub_cancel, List.getElem?_take] at hx
        simp only [Nat.lt_succ_self, if_true] at hx
        rw [List.getD_eq_getElem?_getD, hx]
        rfl
      rw [hg] at h
      simp at h
    · exact ih (by omega)
theorem wv_zero {a : List Nat} (h : Trimmed a) (h0 : wv a = 0) : a = [] := by
  induction a with
  | nil => rfl
  | cons x a ih =>
    simp only [wv] at h0
    have h1 : a = [] := ih (fun y hy => h y (by rw [List.getLast?_cons, hy]; rfl)) (by omega)
    subst h1
    exact absurd (by omega) (h x rfl)

/-! ### Bytes, the highest first -/
def bev : List UInt8 → Nat → Nat
  | [], n => n
  | c :: l, n => bev l (n * 256 + c.toNat)
theorem bev_append (a b : List UInt8) (n : Nat) : bev (a ++ b) n = bev b (bev a n) := by
  induction a generalizing n with
  | nil => rfl
  | cons c a ih => exact ih _
theorem bev_lin (a : List UInt8) (n : Nat) : bev a n = n * 256 ^ a.length + bev a 0 := by
  induction a generalizing n with
  | nil => simp [bev]
  | cons c a ih =>
    simp only [bev]
    rw [ih, ih (0 * 256 + c.toNat), List.length_cons, Nat.pow_succ, Nat.add_mul, Nat.zero_mul, Nat.zero_add]
    rw [Nat.mul_assoc, Nat.mul_comm 256, Nat.add_assoc]
theorem bev_lt (a : List UInt8) : bev a 0 < 256 ^ a.length := by
  induction a with
  | nil => simp [bev]
  | cons c a ih =>
    simp only [bev]
    rw [bev_lin]
    have := c.toNat_lt
    simp only [List.length_cons, Nat.pow_succ]
    have h2 : (0 * 256 + c.toNat) * 256 ^ a.length ≤ 255 * 256 ^ a.length := Nat.mul_le_mul_right _ (by omega)
    omega
/-- The four bytes of a word. -/
def w4 (x : Nat) : List UInt8 := [UInt8.ofNat (x / 16777216), UInt8.ofNat (x / 65536), UInt8.ofNat (x / 256), UInt8.ofNat x]
theorem bev_w4 {x n : Nat} (h : x < 4294967296) : bev (w4 x) n = n * 4294967296 + x := by
  simp only [bev, w4, UInt8.toNat_ofNat']
  omega
/-- Words' bytes: those of the highest word first. -/
def w4s (a : List Nat) : List UInt8 := (a.reverse.map w4).flatten
theorem w4s_snoc (a : List Nat) (x : Nat) : w4s (a ++ [x]) = w4 x ++ w4s a := by simp [w4s]
theorem w4s_cons (a : List Nat) (x : Nat) : w4s (x :: a) = w4s a ++ w4 x := by simp [w4s]
theorem bev_w4s {a : List Nat} (h : W32 a) (n : Nat) : bev (w4s a) n = n * 4294967296 ^ a.length + wv a := by
  induction a generalizing n with
  | nil => simp [w4s, bev, wv]
  | cons x a ih =>
    rw [w4s_cons, bev_append, ih (fun y hy => h y (by simp [hy])), bev_w4 (h x (by simp)), wv, List.length_cons, Nat.pow_succ]
    rw [Nat.add_mul]
    rw [Nat.mul_assoc, Nat.mul_comm (wv a)]
    omega
/-- Without noughts ahead. -/
def strip : List UInt8 → List UInt8
  | [] => []
  | c :: l => bif c == 0 then strip l else c :: l
theorem bev_strip (l : List UInt8) : bev (strip l) 0 = bev l 0 := by
  induction l with
  | nil => rfl
  | cons c l ih =>
    simp only [strip]
    cases h : c == 0
    · rfl
    · have : c = 0 := by simpa using h
      subst this
      simpa [bev] using ih
theorem strip_head (l : List UInt8) : ∀ c, (strip l).head? = some c → c ≠ 0 := by
  induction l with
  | nil => simp [strip]
  | cons c l ih =>
    simp only [strip]
    cases h : c == 0
    · simpa using h
    · exact ih
theorem strip_len (l : List UInt8) : (strip l).length ≤ l.length := by
  induction l with
  | nil => exact Nat.le_refl _
  | cons c l ih =>
    simp only [strip]
    cases c == 0
    · exact Nat.le_refl _
    · simp only [cond_true, List.length_cons]; omega
/-- How many bytes a number has. -/
theorem bytes_len {l : List UInt8} (h : ∀ c, l.head? = some c → c ≠ 0) (n : Nat) : n < l.length ↔ 256 ^ n ≤ bev l 0 := by
  cases l with
  | nil =>
    simp only [List.length_nil, bev]
    have : 0 < 256 ^ n := Nat.pow_pos (by decide)
    omega
  | cons c l =>
    have hc : 1 ≤ c.toNat := by
      have := h c rfl
      have h0 : c.toNat ≠ 0 := fun e => this (UInt8.toNat_inj.1 e)
      omega
    have hlt := bev_lt (c :: l)
    have hge : 256 ^ l.length ≤ bev (c :: l) 0 := by
      simp only [bev]
      rw [bev_lin]
      have : 1 * 256 ^ l.length ≤ (0 * 256 + c.toNat) * 256 ^ l.length := Nat.mul_le_mul_right _ (by omega)
      omega
    simp only [List.length_cons] at hlt ⊢
    constructor
    · intro hn
      exact Nat.le_trans (Nat.pow_le_pow_right (by decide) (by omega)) hge
    · intro hn
      have : 256 ^ n < 256 ^ (l.length + 1) := Nat.lt_of_le_of_lt hn hlt
      exact (Nat.pow_lt_pow_iff_right (by decide)).1 this
end Go.Vx
namespace Go.Vx
open Go Go.Proofs
variable {R : Ending → World → Prop} {g : G} {w : World} {H hp T : Hp}

abbrev u32v (n : Nat) : Value := .int .u32 (n : Int)
abbrev u64v (n : Nat) : Value := .int .u64 (n : Int)
theorem wrap_u32 (n : Nat) : IntKind.u32.wrap (n : Int) = ((n % 4294967296 : Nat) : Int) := by
  show (n : Int) % 4294967296 = _
  omega
theorem wrap_u64 {n : Nat} (h : n < 18446744073709551616) : IntKind.u64.wrap (n : Int) = (n : Int) := by
  show (n : Int) % 18446744073709551616 = _
  omega
theorem wrap_u64_of {n : Int} (h0 : 0 ≤ n) (h : n < 18446744073709551616) : IntKind.u64.wrap n = n := by
  show n % 18446744073709551616 = _
  omega
theorem zerosV_one (x : Value) (n : Nat) : zerosV [x] n = List.replicate n x := by
  induction n with
  | zero => rfl
  | succ n ih => simp [zerosV, ih, List.replicate_succ]
theorem allOne_map {α : Type} (f : α → Value) (h : ∀ x, one (f x) = true) (l : List α) : allOne (l.map f) = true := by
  induction l with
  | nil => rfl
  | cons x l ih => simp only [List.map_cons, allOne, h, ih]; rfl

/-- The first ones of a slice that stays. -/
theorem Sl.take {sz n c : Nat} {a : Option Addr} {cs : List Value} (h : Sl g sz (.slice a n c) n cs) {k : Nat} (hk : k ≤ n) : Sl g sz (.slice a k c) k (cs.take (k * sz)) := by
  obtain ⟨a', c', he, h2, h3, h4⟩ := h
  injection he with e1 _ e3
  subst e1 e3
  refine ⟨a, c, rfl, by omega, ?_, ?_⟩
  · rw [List.length_take, h3]
    exact Nat.min_eq_left (Nat.mul_le_mul_right _ hk)
  · rcases h4 with ⟨h5, h6⟩ | ⟨b, o, h5, h6⟩
    · exact .inl ⟨h5, by rw [h6]; simp⟩
    · refine .inr ⟨b, o, h5, fun j x hx => ?_⟩
      rw [List.getElem?_take] at hx
      split at hx
      · exact h6 j x hx
      · simp at hx
/-- A block that stays from now on, xs a slice. -/
theorem Sat.frzS {b n c sz : Nat} {cs : List Value} {t : TypeId} {fr : Nat × Nat} (h : Sat g w ((b, .cells cs.toArray t fr) :: H)) (hl : cs.length = n * sz) (hc : n ≤ c) :
    ∃ g', g.le g' ∧ Sat g' w H ∧ Sl g' sz (.slice (some ⟨b, 0, none⟩) n c) n cs := by
  obtain ⟨h4, h5⟩ := Sat.freeze h
  refine ⟨_, h5, h4, some ⟨b, 0, none⟩, c, rfl, hc, hl, .inr ⟨b, 0, rfl, fun j x hx => ?_⟩⟩
  rw [add_cell, Nat.zero_add]
  simpa using hx

/-- Words of the program's. -/
abbrev WS (g : G) (v : Value) (ws : List Nat) : Prop := Sl g 1 v ws.length (ws.map u32v)
theorem WS.cell {v : Value} {n : Nat} {ws : List Nat} (hT : Sl g 1 v n (ws.map u32v)) (hS : Sat g w H) {k : IntKind} {j x : Nat} (hj : ws[j]? = some x) {K : Value → World → Prop}
    (hk : ∀ b o, g.cell? b o = some (u32v x) → K (ptr b o) w) : ia 1 v (.int k (j : Int)) K w := by
  have hn : ws.length = n := by obtain ⟨_, _, _, _, h3, _⟩ := hT; simpa using h3
  refine Sl.at hT hS (by rw [← hn]; exact (List.getElem?_eq_some_iff.1 hj).1) (by decide) fun b o h => hk b o ?_
  have := h 0 (u32v x) (by
    rw [Nat.mul_one, List.getElem?_take]
    simp [hj])
  simpa using this

theorem c_trim {v : Value} {ws : List Nat} (hW : WS g v ws) (hl : ws.length ≤ 9223372036854775807) (hS : Sat g w H)
    (hR : ∀ v', WS g v' (ws.take (trimN ws ws.length)) → R (.returned v') w) : Tr P F.whole_words_trim [v] w R := by
  apply t_whole_words_trim
  unfold d_whole_words_trim
  refine lp1 (fun m x w' => w' = w ∧ m ≤ ws.length ∧ Sl g 1 x m ((ws.take m).map u32v) ∧ trimN ws ws.length = trimN ws m) ws.length ⟨rfl, Nat.le_refl _, by rw [List.take_of_length_le (Nat.le_refl _)]; exact hW, rfl⟩ ?_
  rintro m x w' ⟨rfl, hm, hx, ht⟩
  obtain ⟨a, c, rfl, hc, _, _⟩ := id hx
  have hlen : (ws.take m).length = m := by rw [List.length_take, Nat.min_eq_left hm]
  have fin : trimN ws ws.length = m → WS g (.slice a m c) (ws.take (trimN ws ws.length)) := by
    intro e
    show Sl g 1 _ _ _
    rw [e, hlen]
    exact hx
  refine jnI ?_
  simp only [↓E1, ↓E2, ↓E3]
  rw [cnd_dec]
  constructor
  · intro hpos
    rw [wrap64_of (by omega) (by omega)]
    obtain ⟨m', rfl⟩ : ∃ m', m = m' + 1 := ⟨m - 1, by omega⟩
    have e : ((m' + 1 : Nat) : Int) - 1 = (m' : Int) := by omega
    rw [e]
    have hget : (ws.take (m' + 1))[m']? = some (ws.getD m' 0) := by
      rw [List.getElem?_take, if_pos (by omega), List.getD_eq_getElem?_getD, List.getElem?_eq_getElem (by omega)]
      rfl
    refine WS.cell hx hS hget fun b o hb => ?_
    rw [hS.ldI hb]
    simp only [↓E1]
    rw [cnd_dec]
    constructor
    · intro h0
      refine slL_hi _ _ _ _ _ _ (by omega) (by omega) ?_
      refine ⟨m', by omega, _, rfl, rfl, by omega, ?_, ?_⟩
      · have h1 := Sl.take (k := m') hx (by omega)
        have e3 : ((ws.take (m' + 1)).map u32v).take (m' * 1) = (ws.take m').map u32v := by
          rw [Nat.mul_one, ← List.map_take, List.take_take, Nat.min_eq_left (by omega)]
        rw [e3] at h1
        exact h1
      · rw [ht]
        have hb0 : Nat.beq (ws.getD m' 0) 0 = true := by
          have : (ws.getD m' 0) = 0 := by omega
          rw [this]; rfl
        simp only [trimN, hb0, cond_true]
    · intro h0
      refine hR _ (fin ?_)
      rw [ht]
      have hb0 : Nat.beq (ws.getD m' 0) 0 = false := by
        cases hb : Nat.beq (ws.getD m' 0) 0 with
        | false => rfl
        | true => have := Nat.eq_of_beq_eq_true hb; omega
      simp only [trimN, hb0, cond_false]
  · intro h
    have : m = 0 := by omega
    subst this
    refine hR _ (fin ?_)
    rw [ht]
    rfl

theorem mul_step {W W' W0 p q a m o c : Nat} (h1 : W' + p * o = W + p * ((c + (a * m + o)) % 4294967296)) (h2 : W + p * c = W0 + q) : W' + (p * 4294967296) * ((c + (a * m + o)) / 4294967296) = W0 + (q + p * (a * m)) := by
  have h := Nat.div_add_mod (c + (a * m + o)) 4294967296
  generalize (c + (a * m + o)) / 4294967296 = d at h ⊢
  generalize (c + (a * m + o)) % 4294967296 = r at h h1
  have e : p * (4294967296 * d) + p * r = p * c + (p * (a * m) + p * o) := by rw [← Nat.mul_add, h, Nat.mul_add, Nat.mul_add]
  rw [Nat.mul_assoc]
  omega

theorem carry_lt {c a m o : Nat} (hc : c < 4294967296) (ha : a < 4294967296) (hm : m < 4294967296) (ho : o < 4294967296) : c + (a * m + o) < 18446744073709551616 := by
  have : a * m ≤ 4294967295 * 4294967295 := Nat.mul_le_mul (by omega) (by omega)
  omega

theorem getD_some {ws : List Nat} {j : Nat} (h : j < ws.length) : ∃ x, ws[j]? = some x := ⟨ws[j], List.getElem?_eq_getElem h⟩
theorem map_set_u (ws : List Nat) (j x : Nat) : (ws.map u32v).set j (u32v x) = (ws.set j x).map u32v := by rw [List.map_set]

theorem wr_one (cs : List Value) (j : Nat) (v : Value) : wr cs.toArray j [v] = (cs.set j v).toArray := by simp [wr]
theorem wr_u (ws : List Nat) (j x : Nat) : wr (ws.map u32v).toArray j (u32v x).cells.toList = ((ws.set j x).map u32v).toArray := by
  rw [← map_set_u, ← wr_one]; rfl
theorem shr32 (n : Nat) : opI .shr .u64 (n : Int) 32 = u64v (n / 4294967296) := by
  show Value.int .u64 (Int.fdiv (n : Int) (2 ^ (min (Int.toNat 32) 64))) = _
  have e : (2 : Int) ^ (min (Int.toNat 32) 64) = 4294967296 := by decide
  rw [e, Int.fdiv_eq_ediv_of_nonneg _ (by decide)]
  congr 1

theorem c_times {va vb : Value} {xs ys : List Nat} (hA : WS g va xs) (hB : WS g vb ys) (ha : W32 xs) (hb : W32 ys) (hla : xs.length ≤ 1000000) (hlb : ys.length ≤ 1000000) (hS : Sat g w H)
    (hR : ∀ g' v' ws w', g.le g' → WS g' v' ws → W32 ws → Trimmed ws → wv ws = wv xs * wv ys → ws.length ≤ xs.length + ys.length → Sat g' w' H → R (.returned v') w') : Tr P F.whole_times [va, vb] w R := by
  apply t_whole_times
  unfold d_whole_times
  obtain ⟨a1, c1, rfl, _, _, _⟩ := id hA
  obtain ⟨a2, c2, rfl, _, _, _⟩ := id hB
  try simp only [↓E1, ↓E2]
  rw [wrap64_nat (by omega)]
  refine hS.mkS (by omega) (Int.le_refl _) (by omega) (by omega) fun b w1 h1 => ?_
  rw [Int.toNat_natCast, zerosV_one] at *
  have e0 : List.replicate (xs.length + ys.length) (Value.int .u32 0) = (List.replicate (xs.length + ys.length) 0).map u32v := by simp
  rw [e0] at h1
  try simp only [↓E1, ↓E2]
  refine lp1 (fun m y w' => ∃ i os, y = i64 ((i : Nat) : Int) ∧ m = xs.length - i ∧ i ≤ xs.length ∧ os.length = xs.length + ys.length ∧ W32 os ∧ wv os = wv (xs.take i) * wv ys ∧
      (∀ k, i + ys.length ≤ k → k < xs.length + ys.length → os[k]? = some 0) ∧ Sat g w' ((b, .cells (os.map u32v).toArray 211) :: H)) xs.length
    ⟨0, _, rfl, rfl, by omega, List.length_replicate, W32.zeros _, by rw [wv_zeros]; simp [wv], fun k h2 h3 => by rw [List.getElem?_replicate, if_pos h3], h1⟩ ?_
  rintro m y w2 ⟨i, os, rfl, rfl, hi, hol, how, hov, hoz, h2⟩
  try simp only [↓E1]
  rw [cnd_dec]
  constructor
  · intro hlt
    have hlt : i < xs.length := by omega
    obtain ⟨x, hx⟩ := getD_some hlt
    have hx32 := ha.at hx
    refine WS.cell hA h2 hx fun b3 o3 hc3 => ?_
    rw [h2.ldI hc3]
    try simp only [↓E2]
    refine lp2 (fun m y z w' => ∃ c j os', y = u64v c ∧ z = i64 ((j : Nat) : Int) ∧ m = ys.length - j ∧ j ≤ ys.length ∧ c < 4294967296 ∧ os'.length = xs.length + ys.length ∧ W32 os' ∧
        wv os' + 4294967296 ^ (i + j) * c = wv os + 4294967296 ^ i * (x * wv (ys.take j)) ∧
        (∀ k, i + ys.length ≤ k → k < xs.length + ys.length → os'[k]? = some 0) ∧ Sat g w' ((b, .cells (os'.map u32v).toArray 211) :: H)) ys.length
      ⟨0, 0, os, rfl, rfl, rfl, by omega, by decide, hol, how, by simp [wv], hoz, h2⟩ ?_
    rintro m y z w3 ⟨c, j, os', rfl, rfl, rfl, hj, hc, hol', how', hov', hoz', h3⟩
    try simp only [↓E1]
    rw [cnd_dec]
    constructor
    · intro hlt2
      have hlt2 : j < ys.length := by omega
      obtain ⟨q, hq⟩ := getD_some hlt2
      have hq32 := hb.at hq
      refine WS.cell hB h3 hq fun b4 o4 hc4 => ?_
      rw [h3.ldI hc4]
      try simp only [↓E1, ↓E2]
      rw [wrap_u64 (by omega), wrap_u64 (by omega), wrap64_nat (by omega)]
      obtain ⟨o, ho⟩ := getD_some (ws := os') (j := i + j) (by omega)
      have ho32 := how'.at ho
      have hcl := carry_lt hc hx32 hq32 ho32
      rw [ia_eq]
      refine ⟨by omega, by omega, ?_⟩
      rw [Int.toNat_natCast, Nat.mul_one, Nat.zero_add]
      have hld : ((os'.map u32v).getD (i + j) undef) = u32v o := by
        rw [List.getD_eq_getElem?_getD, List.getElem?_map, ho]; rfl
      rw [h3.ld0 (i + j) _ (by simp; omega), hld]
      try simp only [↓E1, ↓E2]
      rw [wrap_u64 (n := o) (by omega)]
      have e1 : (x : Int) * (q : Int) = ((x * q : Nat) : Int) := by simp
      rw [e1, wrap_u64 (n := x * q) (by omega)]
      have e2 : ((x * q : Nat) : Int) + (o : Int) = ((x * q + o : Nat) : Int) := by simp
      rw [e2, wrap_u64 (n := x * q + o) (by omega)]
      have e3 : (c : Int) + ((x * q + o : Nat) : Int) = ((c + (x * q + o) : Nat) : Int) := by simp
      rw [e3, wrap_u64 hcl, wrap_u32]
      rw [ia_eq]
      refine ⟨by omega, by omega, ?_⟩
      rw [Int.toNat_natCast, Nat.mul_one, Nat.zero_add]
      refine h3.st rfl (by simp; omega) rfl fun w4 h4 => ?_
      rw [wr_u] at h4
      rw [bH_eq]
      refine ⟨by simp [okI], ?_⟩
      try simp only [↓E1, ↓E3]
      rw [shr32, wrap64_succ (by omega)]
      refine ⟨ys.length - (j + 1), by omega, _, _, rfl, _, j + 1, _, rfl, rfl, rfl, by omega, ?_, by rw [List.length_set]; exact hol', how'.set (Nat.mod_lt _ (by decide)), ?_, ?_, h4⟩
      · omega
      · have h5 := wv_set ((c + (x * q + o)) % 4294967296) ho
        have h6 := mul_step h5 hov'
        rw [← Nat.add_assoc i j 1, Nat.pow_succ, h6, wv_take_succ hq]
        rw [Nat.pow_add, Nat.mul_add x, Nat.mul_add (4294967296 ^ i)]
        congr 2
        rw [Nat.mul_assoc, Nat.mul_left_comm x]
      · intro k hk1 hk2
        rw [List.getElem?_set_ne (by omega)]
        exact hoz' k hk1 hk2
    · intro hge
      have : j = ys.length := by omega
      subst this
      try simp only [↓E1, ↓E2]
      rw [wrap64_nat (by omega), wrap_u32, Nat.mod_eq_of_lt hc]
      rw [ia_eq]
      refine ⟨by omega, by omega, ?_⟩
      rw [Int.toNat_natCast, Nat.mul_one, Nat.zero_add]
      refine h3.st rfl (by simp; omega) rfl fun w4 h4 => ?_
      rw [wr_u] at h4
      try simp only [↓E1, ↓E3]
      rw [wrap64_succ (by omega)]
      refine ⟨xs.length - (i + 1), by omega, _, rfl, i + 1, _, rfl, rfl, by omega, by rw [List.length_set]; exact hol', how'.set hc, ?_, ?_, h4⟩
      · have h5 := wv_set c (hoz' (i + ys.length) (Nat.le_refl _) (by omega))
        rw [Nat.mul_zero, Nat.add_zero] at h5
        rw [h5, hov', List.take_of_length_le (Nat.le_refl _), hov, wv_take_succ hx, Nat.add_mul, Nat.mul_assoc]
      · intro k hk1 hk2
        rw [List.getElem?_set_ne (by omega)]
        exact hoz' k (by omega) hk2
  · intro hge
    have : i = xs.length := by omega
    subst this
    try simp only [↓E2]
    obtain ⟨g1, hg1, h3, hSl⟩ := h2.frzS (n := xs.length + ys.length) (c := xs.length + ys.length) (sz := 1) (by simp [hol]) (Nat.le_refl _)
    have hWS : WS g1 (.slice (some ⟨b, 0, none⟩) (xs.length + ys.length) (xs.length + ys.length)) os := by
      show Sl g1 1 _ os.length _
      rw [hol]; exact hSl
    refine c_trim hWS (by omega) h3 fun v' hv' => ?_
    try simp only [↓E3]
    refine hR g1 v' _ w2 hg1 hv' (how.take _) (trim_trimmed os (Nat.le_refl _)) ?_ ?_ h3
    · rw [wv_trim os (Nat.le_refl _), List.take_of_length_le (Nat.le_refl _), hov, List.take_of_length_le (Nat.le_refl _)]
    · rw [List.length_take]
      omega
theorem plus_step {W W' S p t c a b : Nat} (ht : t = c + a + b) (h1 : W' + p * 0 = W + p * (t % 4294967296)) (h2 : W + p * c = S) : W' + (p * 4294967296) * (t / 4294967296) = S + (p * a + p * b) := by
  have h := Nat.div_add_mod t 4294967296
  generalize t / 4294967296 = d at h ⊢
  generalize t % 4294967296 = r at h h1
  have e : p * (4294967296 * d) + p * r = p * c + p * a + p * b := by rw [← Nat.mul_add, h, ht, Nat.mul_add, Nat.mul_add]
  rw [Nat.mul_assoc]
  omega

theorem c_plus {va vb : Value} {xs ys : List Nat} (hA : WS g va xs) (hB : WS g vb ys) (ha : W32 xs) (hb : W32 ys) (hla : xs.length ≤ 1000000) (hlb : ys.length ≤ 1000000) (hS : Sat g w H)
    (hR : ∀ g' v' ws w', g.le g' → WS g' v' ws → W32 ws → Trimmed ws → wv ws = wv xs + wv ys → ws.length ≤ max xs.length ys.length + 1 → Sat g' w' H → R (.returned v') w') : Tr P F.whole_plus [va, vb] w R := by
  apply t_whole_plus
  unfold d_whole_plus
  refine jn2 (fun x0 x1 w' => w' = w ∧ ∃ xs' ys', WS g x0 xs' ∧ WS g x1 ys' ∧ W32 xs' ∧ W32 ys' ∧ ys'.length ≤ xs'.length ∧ xs'.length = max xs.length ys.length ∧ wv xs' + wv ys' = wv xs + wv ys) ?_ ?_
  · rintro x0 x1 w' ⟨rfl, xs', ys', hA, hB, ha, hb, hle, hmax, hsum⟩
    have hlx : xs'.length ≤ 1000000 := by omega
    obtain ⟨a1, c1, rfl, _, _, _⟩ := id hA
    obtain ⟨a2, c2, rfl, _, _, _⟩ := id hB
    simp only [↓E1, ↓E2]
    rw [wrap64_succ (by omega)]
    refine hS.mkS (by omega) (Int.le_refl _) (by omega) (by omega) fun b w1 h1 => ?_
    rw [Int.toNat_natCast, zerosV_one] at *
    have e0 : List.replicate (xs'.length + 1) (Value.int .u32 0) = (List.replicate (xs'.length + 1) 0).map u32v := by simp
    rw [e0] at h1
    try simp only [↓E1, ↓E2]
    refine lp2 (fun m y z w' => ∃ c i os, y = u64v c ∧ z = i64 ((i : Nat) : Int) ∧ m = xs'.length - i ∧ i ≤ xs'.length ∧ c ≤ 1 ∧ os.length = xs'.length + 1 ∧ W32 os ∧ wv os + 4294967296 ^ i * c = wv (xs'.take i) + wv (ys'.take i) ∧
        (∀ k, i ≤ k → k < xs'.length + 1 → os[k]? = some 0) ∧ Sat g w' ((b, .cells (os.map u32v).toArray 211) :: H)) xs'.length
      ⟨0, 0, _, rfl, rfl, rfl, by omega, by decide, List.length_replicate, W32.zeros _, by rw [wv_zeros]; simp [wv], fun k h2 h3 => by rw [List.getElem?_replicate, if_pos h3], h1⟩ ?_
    rintro m y z w2 ⟨c, i, os, rfl, rfl, rfl, hi, hc, hol, how, hov, hoz, h2⟩
    try simp only [↓E1, ↓E2]
    rw [cnd_dec]
    constructor
    · intro hlt
      have hlt : i < xs'.length := by omega
      obtain ⟨x, hx⟩ := getD_some hlt
      have hx32 := ha.at hx
      refine WS.cell hA h2 hx fun b3 o3 hc3 => ?_
      rw [h2.ldI hc3]
      try simp only [↓E1, ↓E2]
      rw [wrap_u64 (n := x) (by omega)]
      have e1 : (c : Int) + (x : Int) = ((c + x : Nat) : Int) := by simp
      rw [e1, wrap_u64 (n := c + x) (by omega)]
      refine jn1 (fun v w' => w' = w2 ∧ ∃ t y, v = u64v t ∧ t = c + x + y ∧ y < 4294967296 ∧ wv (ys'.take (i + 1)) = wv (ys'.take i) + 4294967296 ^ i * y) ?_ ?_
      · rintro v w' ⟨rfl, t, q, rfl, ht, hq, hyv⟩
        try simp only [↓E1, ↓E2]
        rw [wrap_u32]
        rw [ia_eq]
        refine ⟨by omega, by omega, ?_⟩
        rw [Int.toNat_natCast, Nat.mul_one, Nat.zero_add]
        refine h2.st rfl (by simp; omega) rfl fun w4 h4 => ?_
        rw [wr_u] at h4
        rw [bH_eq]
        refine ⟨by simp [okI], ?_⟩
        try simp only [↓E1, ↓E3]
        rw [shr32, wrap64_succ (by omega)]
        have h5 := wv_set (t % 4294967296) (hoz i (Nat.le_refl _) (by omega))
        refine ⟨xs'.length - (i + 1), by omega, _, _, rfl, _, i + 1, _, rfl, rfl, rfl, by omega, by omega, by rw [List.length_set]; exact hol, how.set (Nat.mod_lt _ (by decide)), ?_, ?_, h4⟩
        · have h6 := plus_step ht h5 hov
          rw [Nat.pow_succ, h6, wv_take_succ hx, hyv]
          omega
        · intro k hk1 hk2
          rw [List.getElem?_set_ne (by omega)]
          exact hoz k (by omega) hk2
      · intro k1 hk1
        try simp only [↓E1, ↓E2]
        rw [cnd_dec]
        constructor
        · intro hl2
          obtain ⟨q, hq⟩ := getD_some (ws := ys') (j := i) (by omega)
          have hq32 := hb.at hq
          refine WS.cell hB h2 hq fun b4 o4 hc4 => ?_
          rw [h2.ldI hc4]
          try simp only [↓E1, ↓E2, ↓E3]
          rw [wrap_u64 (n := q) (by omega)]
          have e2 : ((c + x : Nat) : Int) + (q : Int) = ((c + x + q : Nat) : Int) := by simp
          rw [e2, wrap_u64 (n := c + x + q) (by omega)]
          exact hk1 _ _ ⟨rfl, _, q, rfl, rfl, hq32, wv_take_succ hq⟩
        · intro hl2
          try simp only [↓E3]
          refine hk1 _ _ ⟨rfl, _, 0, rfl, rfl, by decide, ?_⟩
          rw [List.take_of_length_le (by omega), List.take_of_length_le (by omega)]
          omega
    · intro hge
      have : i = xs'.length := by omega
      subst this
      try simp only [↓E1, ↓E2]
      rw [wrap_u32, Nat.mod_eq_of_lt (by omega), ia_eq]
      refine ⟨by omega, by omega, ?_⟩
      rw [Int.toNat_natCast, Nat.mul_one, Nat.zero_add]
      refine h2.st rfl (by simp; omega) rfl fun w4 h4 => ?_
      rw [wr_u] at h4
      try simp only [↓E2]
      obtain ⟨g1, hg1, h3, hSl⟩ := h4.frzS (n := xs'.length + 1) (c := xs'.length + 1) (sz := 1) (by simp [hol]) (Nat.le_refl _)
      have hWS : WS g1 (.slice (some ⟨b, 0, none⟩) (xs'.length + 1) (xs'.length + 1)) (os.set xs'.length c) := by
        show Sl g1 1 _ (os.set xs'.length c).length _
        rw [List.length_set, hol]; exact hSl
      refine c_trim hWS (by rw [List.length_set]; omega) h3 fun v' hv' => ?_
      simp only [↓E3]
      refine hR g1 v' _ w4 hg1 hv' ((how.set (by omega)).take _) (trim_trimmed _ (Nat.le_refl _)) ?_ ?_ h3
      · rw [wv_trim _ (Nat.le_refl _), List.take_of_length_le (Nat.le_refl _)]
        have h5 := wv_set c (hoz xs'.length (Nat.le_refl _) (by omega))
        rw [Nat.mul_zero, Nat.add_zero] at h5
        rw [h5, hov, List.take_of_length_le (Nat.le_refl _), List.take_of_length_le hle, hsum]
      · rw [List.length_take, List.length_set]
        omega
  · intro k1 hk1
    obtain ⟨a1, c1, rfl, _, _, _⟩ := id hA
    obtain ⟨a2, c2, rfl, _, _, _⟩ := id hB
    simp only [↓E1, ↓E2, ↓E3]
    rw [cnd_dec]
    constructor
    · intro h
      exact hk1 _ _ _ ⟨rfl, ys, xs, hB, hA, hb, ha, by omega, by omega, by omega⟩
    · intro h
      exact hk1 _ _ _ ⟨rfl, xs, ys, hA, hB, ha, hb, by omega, by omega, rfl⟩
end Go.Vx
namespace Go.Vx
open Go Go.Proofs
variable {R : Ending → World → Prop} {g : G} {w : World} {H hp T : Hp}

theorem Sat.up {l : Nat} {o o' : Obj} {K : World → Prop} (h : Sat g w ((l, o) :: H)) (hk : ∀ w', Sat g w' ((l, o') :: H) → K w') : Vx.up l o o' K w := ⟨h.block (by simp), hk _ h.set⟩
theorem Sat.lk {l : Nat} {o : Obj} {p : Prop} (h : Sat g w ((l, o) :: H)) (hp : p) : Vx.lk l o p w := ⟨h.block (by simp), hp⟩
/-- Two blocks more, as a loop over a function lays them. -/
theorem Sat.new2 (h : Sat g w H) {o o2 : Obj} {w' : World} (h1 : w'.os = w.os) (h2 : w'.tape = w.tape) (h3 : w'.output = w.output) (h4 : w'.heap = (w.heap.push o2).push o) :
    Sat g w' ((w.heap.size + 1, o) :: (w.heap.size, o2) :: H) := by
  have a : Sat g { w with heap := w.heap.push o2 } ((w.heap.size, o2) :: H) := h.new rfl rfl rfl rfl
  have b := a.new (w' := w') (o := o) h1 h2 h3 h4
  have e : ({ w with heap := w.heap.push o2 } : World).heap.size = w.heap.size + 1 := by simp
  rw [e] at b
  exact b

theorem c_backward1 {bx l : Nat} {v : Value} {ws : List Nat} (J : Nat → World → Prop) (hJ : ∀ k w, J k w → ∃ g' H', WS g' v ws ∧ Sat g' w ((bx, .cells [v].toArray 209) :: H')) (hlen : ws.length ≤ 9223372036854775807) (h0 : J ws.length w)
    (hY : ∀ (k x : Nat) (w : World) (R : Ending → World → Prop), ws[k]? = some x → J (k + 1) w → (∀ w', J k w' → R (.returned (.bool true)) w') → Yl P l [i64 (k : Int), u32v x] w R)
    (hR : ∀ w', J 0 w' → R (.returned (.tuple #[])) w') : Tr P F.slices_Backward_whole_words_uint32_1 [.func (.yield l) #[] #[], ptr bx 0] w R := by
  apply t_slices_Backward_whole_words_uint32_1
  unfold d_slices_Backward_whole_words_uint32_1
  obtain ⟨g', H', hws, hS⟩ := hJ _ _ h0
  obtain ⟨a, c, rfl, _, _, _⟩ := id hws
  rw [hS.ld0 0 _ (by simp)]
  simp only [↓E1, ↓E2, ↓E3]
  rw [wrap64_of (by omega) (by omega)]
  refine lp1 (fun m x w' => m ≤ ws.length ∧ x = i64 ((m : Int) - 1) ∧ J m w') ws.length ⟨Nat.le_refl _, rfl, h0⟩ ?_
  rintro m x w2 ⟨hm, rfl, hj⟩
  obtain ⟨g2, H2, hws2, h2⟩ := hJ _ _ hj
  simp only [↓E1, ↓E2, ↓E3]
  rw [cnd_dec]
  constructor
  · intro hpos
    obtain ⟨k, rfl⟩ : ∃ k, m = k + 1 := ⟨m - 1, by omega⟩
    have e : ((k + 1 : Nat) : Int) - 1 = (k : Int) := by omega
    rw [e, h2.ld0 0 _ (by simp)]
    simp only [↓E1, ↓E2, ↓E3]
    obtain ⟨x, hx⟩ := getD_some (ws := ws) (j := k) (by omega)
    refine WS.cell hws2 h2 hx fun b o hb => ?_
    rw [h2.ldI hb, clv_yl]
    refine hY k x w2 _ hx hj fun w3 h3 => ?_
    simp only [↓E1, ↓E2, ↓E3, Bool.not_true]
    rw [wrap64_of (by omega) (by omega)]
    exact ⟨k, by omega, _, rfl, by omega, rfl, h3⟩
  · intro h
    have : m = 0 := by omega
    subst this
    exact hR _ hj

theorem n_backward1 : Enter P F.slices_Backward_whole_words_uint32_1 := ⟨Tryz.f199, Tryz.func199, by kernel_rfl, by kernel_rfl⟩

theorem c_clone {v : Value} {n : Nat} {cs : List Value} (hv : Sl g 1 v n cs) (h1 : allOne cs = true) (hn : n ≤ 140737488355328) (hS : Sat g w H)
    (hR : ∀ g' v' w', g.le g' → Sl g' 1 v' n cs → Sat g' w' H → R (.returned v') w') : Tr P F.slices_Clone_byte_byte [v] w R := by
  apply t_slices_Clone_byte_byte
  unfold d_slices_Clone_byte_byte
  obtain ⟨a, c, rfl, hc, hl, hcase⟩ := id hv
  have key : ∀ w, Sat g w H → bs 5 [Value.int .u8 0] 0 [] (fun t5 w => ap 5 1 1 [.int .u8 0] t5 (.slice a n c) (fun t7 w => R (.returned t7) w) w) w := by
    intro w hS
    refine hS.bs (cs := []) rfl fun b w1 h1' => ?_
    refine ⟨some ⟨b, 0, none⟩, 0, 0, n, cs, rfl, h1'.srcI hv, hl, h1, by omega, by omega, fun h => .inr ⟨b, 0, #[], 5, (0, 0), rfl, h1'.block (by simp), .inl rfl, ?_, ?_⟩, fun h => ⟨[], by simp, fun he => by simp at he, fun ad he => ?_, fun c' w' hc' e1 e2 e3 e4 => ?_⟩⟩
    · have : n = 0 := by omega
      subst this
      simp
    · have : n = 0 := by omega
      subst this
      have : cs = [] := List.eq_nil_of_length_eq_zero (by simpa using hl)
      subst this
      have h2 := h1'.set (o' := .cells (wr #[] (0 + 0 * 1) []) 5 (0, 0))
      obtain ⟨g1, hg1, h3, hs⟩ := Sat.frzS (b := b) (n := 0) (c := 0) (sz := 1) (cs := []) h2 rfl (Nat.le_refl _)
      exact hR g1 _ _ hg1 hs h3
    · intro j x hx; simp at hx
    · have h2 := h1'.tail.new e1 e2 e3 e4
      obtain ⟨g1, hg1, h3, hs⟩ := Sat.frzS (b := w1.heap.size) (n := c') (c := c') (sz := 1) (cs := cs ++ zerosV [.int .u8 0] (c' - (0 + n))) (by simpa using h2) (by
        rw [List.length_append, length_zerosV, hl]; simp; omega) (Nat.le_refl _)
      have h4 := Sl.take (k := n) hs (by omega)
      have e5 : (cs ++ zerosV [Value.int .u8 0] (c' - (0 + n))).take (n * 1) = cs := by
        rw [← hl, List.take_left']; rfl
      rw [e5] at h4
      have e6 : 0 + n = n := by omega
      rw [e6]
      exact hR g1 _ _ hg1 h4 h3
  rcases hcase with ⟨rfl, h2⟩ | ⟨b, o, rfl, _⟩
  · subst h2
    have : n = 0 := by simpa using hl.symm
    subst this
    rw [bN_eql (t := true) rfl rfl rfl rfl]
    simp only [↓E3]
    exact hR g _ w (.refl g) (Sl.nil g 1) hS
  · rw [bN_eql (t := false) rfl rfl rfl rfl]
    simp only [↓E3]
    exact key w hS

theorem shr_u8 (x k : Nat) (d : Nat) (kk : Int) (hkk : kk = (k : Int)) (hk : 2 ^ (min k 32) = d) : ∀ (K : Value → World → Prop) (w : World), (Vx.bH .shr .u32 (u32v x) (.int .u64 kk) (fun t w => cI .u8 t K w) w) = K (byt (UInt8.ofNat (x / d))) w := by
  intro K w
  subst hkk
  rw [bH_eq]
  have e : opI .shr .u32 (x : Int) (k : Int) = .int .u32 ((x / d : Nat) : Int) := by
    show Value.int .u32 (Int.fdiv (x : Int) (2 ^ (min (Int.toNat k) 32))) = _
    rw [Int.toNat_natCast, Int.fdiv_eq_ediv_of_nonneg _ (Int.le_of_lt (Int.pow_pos (by decide)))]
    congr 1
    rw [← hk]
    norm_cast
  rw [e, cI_eq]
  have e2 : Value.int .u8 (IntKind.u8.wrap ((x / d : Nat) : Int)) = byt (UInt8.ofNat (x / d)) := by
    show Value.int .u8 (((x / d : Nat) : Int) % 256) = Value.int .u8 (((UInt8.ofNat (x / d)).toNat : Nat) : Int)
    rw [UInt8.toNat_ofNat']
    rfl
  rw [e2]
  simp [okI]
theorem low_u8 (x : Nat) (K : Value → World → Prop) (w : World) : cI .u8 (u32v x) K w = K (byt (UInt8.ofNat x)) w := by
  rw [cI_eq]
  have e2 : Value.int .u8 (IntKind.u8.wrap (x : Int)) = byt (UInt8.ofNat x) := by
    show Value.int .u8 ((x : Int) % 256) = Value.int .u8 (((UInt8.ofNat x).toNat : Nat) : Int)
    rw [UInt8.toNat_ofNat']
    rfl
  rw [e2]

theorem c_bytes {v : Value} {ws : List Nat} (hW : WS g v ws) (h32 : W32 ws) (hlen : ws.length ≤ 1000000) (hS : Sat g w H)
    (hR : ∀ g' v' bs w', g.le g' → Sl g' 1 v' bs.length (bcs bs) → (∀ c, bs.head? = some c → c ≠ 0) → bev bs 0 = wv ws → bs.length ≤ 4 * ws.length → Sat g' w' H → R (.returned v') w') : Tr P F.whole_words_bytes [v] w R := by
  apply t_whole_words_bytes
  unfold d_whole_words_bytes
  refine hS.al fun b3 w1 h1 => ?_
  simp only [↓E2]
  refine c_trim hW (by omega) h1 fun v8 hv8 => ?_
  have hwv := wv_trim ws (Nat.le_refl _)
  rw [List.take_of_length_le (Nat.le_refl _)] at hwv
  have hlt := trimN_le ws ws.length
  generalize hts : ws.take (trimN ws ws.length) = ts at hv8 hwv
  have h32t : W32 ts := by rw [← hts]; exact h32.take _
  have hlt2 : ts.length ≤ ws.length := by rw [← hts, List.length_take]; omega
  clear hts hlt
  simp only [↓E2, ↓E3]
  apply t_slices_Backward_whole_words_uint32
  unfold d_slices_Backward_whole_words_uint32
  have e8 : v8.cells.toList = [v8] := by obtain ⟨a, c, rfl, _⟩ := hv8; rfl
  rw [e8]
  refine h1.al fun bx w2 h2 => ?_
  simp only [↓E3]
  refine ⟨_, _, rfl, n_backward1, fun o ob ox W1 e1 e2 e3 e4 hyl => ?_⟩
  have h3 := h2.new2 e1 e2 e3 e4
  generalize w2.heap.size + 1 = l at h3 hyl ⊢
  generalize w2.heap.size = D at h3 hyl ⊢
  obtain ⟨J, hJ⟩ : ∃ J : Nat → World → Prop, J = fun k W => ∃ g' v' hp, g.le g' ∧ Grow Ty.uint8 1 v' (w4s (ts.drop k)).length (bcs (w4s (ts.drop k))) hp ∧ Sat g' W ((l, o) :: (b3, .cells [v'].toArray 176) :: (hp ++ ((D, .deferred (some [])) :: (bx, .cells [v8].toArray 209) :: H))) := ⟨_, rfl⟩
  refine c_backward1 (l := l) (bx := bx) (v := v8) (ws := ts) J ?_ (by omega) ?_ ?_ ?_
  · rw [hJ]
    rintro k W ⟨g', v', hp, hg, hgr, h⟩
    exact ⟨g', _, hv8.mono hg, Sat.front (A := (l, o) :: (b3, .cells [v'].toArray 176) :: (hp ++ [(D, .deferred (some []))])) (by simpa using h)⟩
  · rw [hJ]
    refine ⟨g, .slice none 0 0, [], .refl g, ?_, ?_⟩
    · rw [List.drop_length]
      exact .nil
    · exact (Sat.front (A := [(l, _), (D, _), (bx, _)]) h3).swap2
  · intro k x W R' hx hj hk
    rw [hJ] at hj hk
    obtain ⟨g2, v2, hp2, hg2, hgr, h4⟩ := hj
    have hx32 := h32t.at hx
    have hdrop : w4s (ts.drop k) = w4s (ts.drop (k + 1)) ++ w4 x := by
      rw [← w4s_cons]
      congr 1
      rw [List.drop_eq_getElem_cons (List.getElem?_eq_some_iff.1 hx).1, (List.getElem?_eq_some_iff.1 hx).2]
    refine hyl _ W R' rfl ?_
    show Vx.lk l o _ W
    refine h4.lk ?_
    refine h4.up fun w5 h5 => ?_
    rw [shr_u8 x 24 16777216 24 rfl (by decide), shr_u8 x 16 65536 16 rfl (by decide), shr_u8 x 8 256 8 rfl (by decide), low_u8]
    refine bdI (cs := bcs (w4 x)) rfl ?_
    refine h5.al fun b6 w6 h6 => ?_
    refine h6.st (c := [.int .u8 0, .int .u8 0, .int .u8 0, .int .u8 0]) rfl (by simp) rfl fun w7 h7 => ?_
    have h7 : Sat g2 w7 ((b6, .cells (bcs (w4 x)).toArray 252) :: (l, ob) :: (b3, .cells [v2].toArray 176) :: (hp2 ++ ((D, .deferred (some [])) :: (bx, .cells [v8].toArray 209) :: H))) := h7
    have h8 := h7.drew
    try simp only [↓E2]
    rw [h8.ld2 0 _ (by simp)]
    refine ⟨b6, 0, 0, 4, 4, rfl, .inl ⟨rfl, rfl⟩, .inl ⟨rfl, rfl⟩, .inl ⟨rfl, rfl, rfl⟩, by decide, by decide, by decide, by decide, ?_⟩
    have h9 : Sat g2 w7.drew ((b6, .cells (bcs (w4 x)).toArray 252) :: (hp2 ++ ((l, ob) :: (b3, .cells [v2].toArray 176) :: (D, .deferred (some [])) :: (bx, .cells [v8].toArray 209) :: H))) :=
      h8.perm (.cons _ (List.perm_append_comm_assoc [_, _] hp2 _))
    have hl4 : (w4s (ts.drop (k + 1))).length ≤ 4 * ts.length := by
      have : ∀ a : List Nat, (w4s a).length = 4 * a.length := by
        intro a
        induction a with
        | nil => rfl
        | cons y a ih => rw [w4s_cons, List.length_append, ih]; simp [w4]; omega
      rw [this, List.length_drop]
      omega
    refine h9.ap1 (m := 4) hgr rfl (by simp [w4]) (allOne_byt _) (by omega) (by omega) fun v3 hp3 w10 hgr3 h10 => ?_
    have h11 := Sat.front (A := hp3 ++ [(l, ob)]) (x := (b3, .cells [v2].toArray 176)) (by simpa using h10)
    refine h11.st (c := [v2]) (by obtain ⟨a, c, rfl⟩ := hgr3.slice; rfl) (by obtain ⟨a, c, rfl⟩ := hgr3.slice; simp) (by obtain ⟨a, c, rfl⟩ := hgr3.slice; rfl) fun w12 h12 => ?_
    have h12 : Sat g2 w12 ((b3, .cells [v3].toArray 176) :: ((hp3 ++ [(l, ob)]) ++ ((D, .deferred (some [])) :: (bx, .cells [v8].toArray 209) :: H))) := by
      obtain ⟨a, c, rfl⟩ := hgr3.slice
      exact h12
    have h13 := Sat.front (A := (b3, .cells [v3].toArray 176) :: hp3) (x := (l, ob)) (by simpa using h12)
    refine h13.up fun w14 h14 => ?_
    refine hk _ ⟨g2, v3, hp3, hg2, ?_, h14⟩
    rw [hdrop]
    have e : (w4s (ts.drop (k + 1)) ++ w4 x).length = (w4s (ts.drop (k + 1))).length + 4 := by simp [w4]
    rw [e, show bcs (w4s (ts.drop (k + 1)) ++ w4 x) = bcs (w4s (ts.drop (k + 1))) ++ bcs (w4 x) from List.map_append]
    exact hgr3
  · intro W hj
    rw [hJ] at hj
    obtain ⟨g2, v2, hp2, hg2, hgr, h4⟩ := hj
    rw [List.drop_zero] at hgr
    simp only []
    refine h4.up fun w5 h5 => ?_
    have h6 : Sat g2 w5 (hp2 ++ ((b3, .cells [v2].toArray 176) :: (D, .deferred (some [])) :: (bx, .cells [v8].toArray 209) :: H)) :=
      (h5.tail).perm (List.perm_append_comm_assoc [_] hp2 _)
    obtain ⟨g3, hg3, h7, hsl⟩ := hgr.freeze h6
    have hbv := bev_w4s h32t 0
    rw [Nat.zero_mul, Nat.zero_add] at hbv
    have hl4 : (w4s ts).length ≤ 4 * ts.length := by
      have : ∀ a : List Nat, (w4s a).length = 4 * a.length := by
        intro a
        induction a with
        | nil => rfl
        | cons y a ih => rw [w4s_cons, List.length_append, ih]; simp [w4]; omega
      rw [this]
      omega
    generalize w4s ts = bs at hsl hbv hl4
    rw [hwv] at hbv
    refine lp0 (fun m w' => ∃ v' bs', m = bs'.length ∧ bs'.length ≤ bs.length ∧ strip bs' = strip bs ∧ Sl g3 1 v' bs'.length (bcs bs') ∧ Sat g3 w' ((b3, .cells [v'].toArray 176) :: (D, .deferred (some [])) :: (bx, .cells [v8].toArray 209) :: H)) rfl bs.length
      ⟨v2, bs, rfl, Nat.le_refl _, rfl, hsl, h7⟩ ?_
    rintro m w8 ⟨v', bs', rfl, hle, hst, hsl', h8⟩
    rw [h8.ld0 0 _ (by simp)]
    obtain ⟨a, c, rfl, hc, _, _⟩ := id hsl'
    simp only [↓E1, ↓E2, ↓E3]
    have fin : strip bs' = bs' → Tr P F.slices_Clone_byte_byte [.slice a bs'.length c] w8 (Vx.back (fun t39 w => Vx.up D (.deferred (some [])) (.deferred none) (fun w => R (.returned t39) w) w) (fun ch w => Vx.up D (.deferred (some [])) (.deferred none) (fun w => R (.panicked ch) w) w)) := by
      intro e
      refine c_clone hsl' (allOne_byt _) (by omega) h8 fun g4 v4 w9 hg4 hv4 h9 => ?_
      simp only [↓E3]
      refine h9.tail.up fun w10 h10 => ?_
      refine hR g4 v4 bs' w10 ((hg2.trans hg3).trans hg4) hv4 ?_ ?_ (by omega) h10.tail.tail
      · rw [← e]; exact strip_head _
      · rw [← e, hst, bev_strip, hbv]
    rw [cnd_dec]
    constructor
    · intro hpos
      rw [h8.ld0 0 _ (by simp)]
      simp only [↓E1, ↓E2, ↓E3]
      cases bs' with
      | nil => simp at hpos
      | cons c0 bs' =>
        refine Sl.at (j := 0) hsl' h8 (by simp) (by decide) fun b o hcell => ?_
        rw [h8.ldI (b := b) (o := o) (v := byt c0) (by simpa using hcell 0 (byt c0) rfl)]
        simp only [↓E1]
        rw [cnd_dec]
        constructor
        · intro h0
          have hc0 : c0 = 0 := by
            apply UInt8.toNat_inj.1
            have : ((c0.toNat : Nat) : Int) = 0 := h0
            simp; omega
          subst hc0
          rw [h8.ld0 0 _ (by simp)]
          simp only [↓E3]
          refine slL_lo _ _ _ _ _ _ (by decide) (by simp; omega) hc ?_
          have hf := Sl.from1 (sz := 1) hsl' (by simp) (by decide)
          have hf' : Sl g3 1 (Value.slice (if (c : Int) = 1 then a else a.map (·.add ((1 : Int).toNat * 1))) (((0 : UInt8) :: bs').length - (1 : Int).toNat) (c - (1 : Int).toNat)) bs'.length (bcs bs') := hf
          obtain ⟨v9, hv9⟩ : ∃ v9, v9 = Value.slice (if (c : Int) = 1 then a else a.map (·.add ((1 : Int).toNat * 1))) (((0 : UInt8) :: bs').length - (1 : Int).toNat) (c - (1 : Int).toNat) := ⟨_, rfl⟩
          rw [← hv9] at hf' ⊢
          refine h8.st (c := [_]) (by rw [hv9]; rfl) (by simp) (by rw [hv9]; rfl) fun w9 h9 => ?_
          try simp only [↓E3]
          refine ⟨_, by simp, trivial, v9, bs', rfl, by simp at hle; omega, ?_, hf', by rw [hv9] at h9 ⊢; exact h9⟩
          rw [← hst]
          rfl
        · intro h0
          rw [h8.ld0 0 _ (by simp)]
          try simp only [↓E2, ↓E3]
          refine fin ?_
          have hc0 : (c0 == 0) = false := by
            simp only [beq_eq_false_iff_ne]
            intro e
            subst e
            exact h0 rfl
          simp only [strip, hc0, cond_false]
    · intro h0
      rw [h8.ld0 0 _ (by simp)]
      try simp only [↓E2, ↓E3]
      refine fin ?_
      cases bs' with
      | nil => rfl
      | cons c0 bs' => simp at h0
end Go.Vx
namespace Go.Vx
open Go Go.Proofs
variable {R : Ending → World → Prop} {g : G} {w : World} {H hp T : Hp}

/-- A number's value: below nought, its bytes. -/
abbrev intV (neg : Bool) (v : Value) : Value := .agg #[.bool neg, v]

theorem c_made {neg : Bool} {v : Value} {ws : List Nat} (hW : WS g v ws) (h32 : W32 ws) (hlen : ws.length ≤ 1000000) (hS : Sat g w H)
    (hR : ∀ g' v' bs w', g.le g' → Sl g' 1 v' bs.length (bcs bs) → (∀ c, bs.head? = some c → c ≠ 0) → bev bs 0 = wv ws → bs.length ≤ 4 * ws.length → Sat g' w' H → R (.returned (intV (neg && Nat.blt 0 bs.length) v')) w') : Tr P F.whole_made [.bool neg, v] w R := by
  apply t_whole_made
  unfold d_whole_made
  refine hS.al fun b w1 h1 => ?_
  try simp only [↓E2]
  refine c_bytes hW h32 hlen h1 fun g1 v1 bs w2 hg1 hv1 hh hb hl h2 => ?_
  try simp only [↓E3]
  obtain ⟨a, c, rfl, _, _, _⟩ := id hv1
  have fin : ∀ q : Bool, q = (neg && Nat.blt 0 bs.length) → bd [.bool false, .slice none 0 0] [(0, 1, (.bool q)), (1, 1, .slice a bs.length c)] (fun t15 w => st 2 (ptr b 0) t15 (fun w => ldn 2 (ptr b 0) (fun r0 w => R (.returned r0) w) w) w) w2 := by
    intro q hq
    refine bdI (cs := [.bool q, .slice a bs.length c]) rfl ?_
    refine h2.st (c := [.bool false, .slice none 0 0]) rfl (by simp) rfl fun w3 h3 => ?_
    refine h3.ldn0 (c := [.bool q, .slice a bs.length c]) rfl ?_
    rw [hq]
    exact hR g1 _ bs w3 hg1 hv1 hh hb hl h3.tail
  rw [cnd_eq]
  constructor
  · rintro rfl
    try simp only [↓E1, ↓E2]
    refine fin _ ?_
    rw [Bool.true_and, Bool.eq_iff_iff]
    simp
  · rintro rfl
    exact fin _ rfl

theorem c_fits {neg : Bool} {v : Value} {ws : List Nat} (hW : WS g v ws) (h32 : W32 ws) (hlen : ws.length ≤ 1000000) (hS : Sat g w H)
    (hok : ∀ g' v' bs w', wv ws < 256 ^ 128 → g.le g' → Sl g' 1 v' bs.length (bcs bs) → (∀ c, bs.head? = some c → c ≠ 0) → bev bs 0 = wv ws → bs.length ≤ 128 → Sat g' w' H → R (.returned (.tuple #[intV (neg && Nat.blt 0 bs.length) v', i64 0])) w')
    (hbad : ∀ g' w', 256 ^ 128 ≤ wv ws → g.le g' → Sat g' w' H → R (.returned (.tuple #[intV false (.slice none 0 0), i64 24])) w') : Tr P F.whole_fits [.bool neg, v] w R := by
  apply t_whole_fits
  unfold d_whole_fits
  refine hS.al fun b w1 h1 => ?_
  try simp only [↓E2]
  refine c_made hW h32 hlen h1 fun g1 v1 bs w2 hg1 hv1 hh hb hl h2 => ?_
  try simp only [↓E3]
  have hbl := bytes_len hh 128
  rw [hb] at hbl
  obtain ⟨a, c, rfl, _, _, _⟩ := id hv1
  refine h2.al fun b6 w3 h3 => ?_
  refine h3.st (c := [.bool false, .slice none 0 0]) rfl (by simp) rfl fun w4 h4 => ?_
  have h4 : Sat g1 w4 ((b6, .cells [.bool (neg && Nat.blt 0 bs.length), .slice a bs.length c].toArray 178) :: (b, .cells [.bool false, .slice none 0 0].toArray 178) :: H) := h4
  try simp only [↓E1, Nat.reduceAdd]
  rw [h4.ld0 1 _ (by simp)]
  try simp only [↓E1, ↓E2, ↓E3]
  rw [cnd_dec]
  constructor
  · intro h
    refine bdI (cs := [.bool false, .slice none 0 0]) rfl ?_
    refine h4.swap2.st (c := [.bool false, .slice none 0 0]) rfl (by simp) rfl fun w5 h5 => ?_
    refine h5.ldn0 (c := [.bool false, .slice none 0 0]) rfl ?_
    exact hbad g1 w5 (hbl.1 (by omega)) hg1 h5.tail.tail
  · intro h
    refine h4.ldn0 (c := [.bool (neg && Nat.blt 0 bs.length), .slice a bs.length c]) rfl ?_
    refine h4.swap2.st (c := [.bool false, .slice none 0 0]) rfl (by simp) rfl fun w5 h5 => ?_
    refine h5.ldn0 (c := [.bool (neg && Nat.blt 0 bs.length), .slice a bs.length c]) rfl ?_
    refine hok g1 _ bs w5 ?_ hg1 hv1 hh hb (by omega) h5.tail.tail
    rcases Nat.lt_or_ge (wv ws) (256 ^ 128) with h' | h'
    · exact h'
    · have := hbl.2 h'
      omega

theorem digit_range {c : UInt8} (h : digitB c = true) : 48 ≤ c.toNat ∧ c.toNat ≤ 57 := by
  simp only [digitB, Bool.and_eq_true, decide_eq_true_eq] at h
  exact ⟨UInt8.le_iff_toNat_le.1 h.1, UInt8.le_iff_toNat_le.1 h.2⟩

/-- No byte that is no digit. -/
theorem c_odd {t : List UInt8} (hd : ∀ c ∈ t, digitB c = true) (hS : Sat g w H) (hR : ∀ w', Sat g w' H → R (.returned (i64 (-1))) w') : Tr P F.strings_IndexFunc [str t, .func (.func F.whole_Read_1) #[] #[]] w R := by
  apply t_strings_IndexFunc
  unfold d_strings_IndexFunc
  try simp only [↓E2]
  apply t_strings_indexFunc
  unfold d_strings_indexFunc
  apply hS.rgS
  intro b w' h
  refine lp1 (fun m x w => ∃ k, k ≤ t.length ∧ m = t.length - k ∧ Sat g w ((b, .stringIter ⟨t.toArray⟩ k) :: H)) t.length ⟨0, by omega, by omega, h⟩ ?_
  rintro m x w1 ⟨k, hk, rfl, h1⟩
  refine h1.nxS ?_ ?_
  · intro hlt w2 h2
    have hlt' : k < t.length := hlt
    have hget : (⟨t.toArray⟩ : ByteArray)[k]'hlt = t[k] := rfl
    have hr := digit_range (hd _ (List.getElem_mem hlt'))
    have hdec := decode_ascii ⟨t.toArray⟩ k hlt (by rw [hget]; omega)
    rw [hget] at hdec
    rw [hdec] at h2 ⊢
    try simp only [↓E1, ↓E2, ↓E3, List.append_nil, List.nil_append]
    apply t_whole_Read_1
    unfold d_whole_Read_1
    try simp only [↓E1]
    rw [cnd_dec]
    constructor
    · intro h; omega
    · intro _
      try simp only [↓E3]
      rw [bB_eql, cnd_eq]
      constructor
      · intro h
        simp only [beq_true, decide_eq_true_eq] at h
        omega
      · intro _
        try simp only [↓E3]
        exact ⟨t.length - (k + 1), by omega, x, rfl, k + 1, by omega, rfl, h2⟩
  · intro hge
    try simp only [↓E2, ↓E3]
    exact hR _ h1.tail

theorem decV_append (a b : List UInt8) (n : Nat) : decV (a ++ b) n = decV b (decV a n) := by
  induction a generalizing n with
  | nil => rfl
  | cons c a ih => exact ih _

theorem whole_ok : WholeOK := by
  intro t g w H R hne hlen hd hS hR
  apply t_whole_Read
  unfold d_whole_Read
  refine hS.al fun b2 w1 h1 => ?_
  have hone : ∀ (v : Value) n cs, Sl g 1 v n cs → one v = true := fun v n cs h => h.one
  obtain ⟨c0, t', rfl⟩ : ∃ c0 t', t = c0 :: t' := by
    cases t with
    | nil => exact absurd rfl hne
    | cons c t => exact ⟨c, t, rfl⟩
  have hc0 := digit_range (hd c0 (by simp))
  try simp only [↓E2]
  apply t_strings_CutPrefix
  unfold d_strings_CutPrefix
  try simp only [↓E2]
  apply t_internal_stringslite_CutPrefix
  unfold d_internal_stringslite_CutPrefix
  try simp only [↓E2]
  apply t_internal_stringslite_HasPrefix
  unfold d_internal_stringslite_HasPrefix
  have e45 : (Value.string { data := #[45] }) = str [45] := rfl
  rw [e45]
  try simp only [↓E1, ↓E2]
  rw [cnd_dec]
  constructor
  rotate_left
  · intro h; simp at h; omega
  intro _
  rw [sl_hi]
  refine ⟨by omega, by simp; omega, ?_⟩
  try simp only [↓E2, ↓E3]
  have hne45 : ¬ ((c0 :: t').take (Int.toNat (([45] : List UInt8).length : Int)) = [45]) := by
    show ¬ (c0 :: List.take 0 t' = [45])
    simp only [List.take_zero, List.cons.injEq, and_true]
    rintro rfl
    simp at hc0
  rw [decide_eq_false hne45]
  try simp only [↓E2, ↓E3, Bool.not_false]
  -- what is told
  have tell : ∀ (g' : G) (q : Bool) (sl : Value) (e : Int) (w' : World), g.le g' → Sat g' w' ((b2, .cells [.bool false, .slice none 0 0].toArray 178) :: H) → one sl = true → decide (e = 0) = numB (c0 :: t') →
      st 2 (ptr b2 0) (.agg #[.bool q, sl]) (fun w => ldn 2 (ptr b2 0) (fun r0 w => R (.returned (.tuple #[r0, i64 e])) w) w) w' := by
    intro g' q sl e w' hg h ho he
    refine h.st (c := [.bool false, .slice none 0 0]) rfl (by simp) (by show (one (.bool q) && (one sl && true)) = true; rw [ho]; rfl) fun w3 h3 => ?_
    refine h3.ldn0 (c := [.bool q, sl]) rfl ?_
    exact hR g' q sl e w3 hg h3.tail ho he
  refine jn1 (fun x w' => (t'.length = 0 ∨ c0 ≠ 48) ∧ Sat g w' ((b2, .cells [.bool false, .slice none 0 0].toArray 178) :: H)) ?_ ?_
  · rintro x w2 ⟨hlead, h2⟩
    have hlead' : (Nat.ble (c0 :: t').length 1 || (c0 :: t').getD 0 0 != 48) = true := by
      rcases hlead with h | h
      · simp [h]
      · simp [h]
    try simp only [↓E1, ↓E2]
    rw [cnd_dec]
    constructor
    · intro hbig
      refine bdI (cs := [.bool false, .slice none 0 0]) rfl ?_
      refine tell g false _ 24 w2 (.refl g) h2 rfl ?_
      have : Nat.ble (c0 :: t').length 400 = false := by
        cases hb : Nat.ble (c0 :: t').length 400 with
        | false => rfl
        | true => have := Nat.le_of_ble_eq_true hb; omega
      rw [numB, this]
      simp
    intro hsmall
    have h400 : Nat.ble (c0 :: t').length 400 = true := Nat.ble_eq_true_of_le (by omega)
    have h400' : (c0 :: t').length ≤ 400 := by omega
    refine h2.cSB fun bt c w3 hc h3 => ?_
    have earr : (((c0 :: t').map byt).toArray ++ Array.replicate (c - (c0 :: t').length) (Value.int .u8 0)) = (bcs (c0 :: t') ++ List.replicate (c - (c0 :: t').length) (Value.int .u8 0)).toArray := by
      apply Array.ext'; simp
    rw [earr] at h3
    try simp only [↓E2]
    refine lp2 (fun m x y w' => ∃ g' ws i, y = i64 ((i : Nat) : Int) ∧ m = (c0 :: t').length - i ∧ i ≤ (c0 :: t').length ∧ g.le g' ∧ WS g' x ws ∧ W32 ws ∧ wv ws = decV ((c0 :: t').take i) 0 ∧ ws.length ≤ 3 * i ∧
        Sat g' w' ((bt, .cells (bcs (c0 :: t') ++ List.replicate (c - (c0 :: t').length) (Value.int .u8 0)).toArray 5 (c, c + 1)) :: (b2, .cells [.bool false, .slice none 0 0].toArray 178) :: H)) (c0 :: t').length
      ⟨g, [], 0, rfl, rfl, by omega, .refl g, Sl.nil g 1, W32.nil, rfl, by simp, h3⟩ ?_
    rintro m x y w4 ⟨g4, ws, i, rfl, rfl, hi, hg4, hws, h32, hval, hwl, h4⟩
    try simp only [↓E1]
    rw [cnd_dec]
    constructor
    · intro hlt
      have hlt : i < (c0 :: t').length := by omega
      rw [ia_eq]
      refine ⟨by omega, by omega, ?_⟩
      rw [Int.toNat_natCast, Nat.mul_one, Nat.zero_add]
      obtain ⟨ci, hci⟩ : ∃ ci, (c0 :: t')[i]? = some ci := ⟨_, List.getElem?_eq_getElem hlt⟩
      have hcd := digit_range (hd ci (List.mem_of_getElem? hci))
      have hget : (bcs (c0 :: t') ++ List.replicate (c - (c0 :: t').length) (Value.int .u8 0)).getD i undef = byt ci := by
        rw [List.getD_eq_getElem?_getD, List.getElem?_append_left (by simpa using hlt), List.getElem?_map, hci]
        rfl
      rw [h4.ld0 i _ (by simp; omega), hget]
      refine h4.bs (cs := [.int .u32 10]) rfl fun b46 w5 h5 => ?_
      obtain ⟨g5, hg5, h5', hs5⟩ := h5.frzS (n := 1) (c := 1) (sz := 1) rfl (Nat.le_refl _)
      have hws5 : WS g5 (.slice (some ⟨b46, 0, none⟩) 1 1) [10] := hs5
      try simp only [↓E2]
      refine c_times (hws.mono hg5) hws5 h32 (fun x hx => by simp at hx; subst hx; decide) (by omega) (by simp) h5' fun g6 v6 ws6 w6 hg6 hv6 h326 _ hval6 hl6 h6 => ?_
      try simp only [↓E1, ↓E2, ↓E3]
      have e48 : IntKind.u32.wrap (IntKind.u8.wrap ((ci.toNat : Int) - 48)) = ((ci.toNat - 48 : Nat) : Int) := by
        have e1 : IntKind.u8.wrap ((ci.toNat : Int) - 48) = ((ci.toNat - 48 : Nat) : Int) := by
          show ((ci.toNat : Int) - 48) % 256 = _
          omega
        rw [e1, wrap_u32]
        congr 1
        omega
      rw [e48]
      refine h6.bs (cs := [u32v (ci.toNat - 48)]) rfl fun b51 w7 h7 => ?_
      obtain ⟨g7, hg7, h7', hs7⟩ := h7.frzS (n := 1) (c := 1) (sz := 1) rfl (Nat.le_refl _)
      have hws7 : WS g7 (.slice (some ⟨b51, 0, none⟩) 1 1) [ci.toNat - 48] := hs7
      have h32d : W32 [ci.toNat - 48] := fun x hx => by simp at hx; omega
      try simp only [↓E2]
      refine c_trim hws7 (by simp) h7' fun v8 hv8 => ?_
      try simp only [↓E2, ↓E3]
      have hwt := wv_trim [ci.toNat - 48] (Nat.le_refl _)
      have hlt1 : ([ci.toNat - 48].take (trimN [ci.toNat - 48] [ci.toNat - 48].length)).length ≤ 1 := by
        rw [List.length_take]
        simp
        omega
      refine c_plus (hv6.mono hg7) hv8 h326 (h32d.take _) (by simp at hl6; omega) (by omega) h7' fun g9 v9 ws9 w9 hg9 hv9 h329 _ hval9 hl9 h9 => ?_
      try simp only [↓E3]
      rw [wrap64_succ (by omega)]
      refine ⟨(c0 :: t').length - (i + 1), by omega, _, _, rfl, g9, ws9, i + 1, rfl, rfl, by omega, ((hg4.trans hg5).trans (hg6.trans hg7)).trans hg9, hv9, h329, ?_, ?_, h9⟩
      · rw [hval9, hval6, hwt, List.take_of_length_le (Nat.le_refl _)]
        rw [List.take_add_one, hci]
        simp only [Option.toList_some]
        rw [decV_append, hval]
        simp [wv, decV]
      · simp only [List.length_cons, List.length_nil] at hl6
        omega
    · intro hge
      have : i = (c0 :: t').length := by omega
      subst this
      try simp only [↓E2]
      rw [List.take_of_length_le (Nat.le_refl _)] at hval
      refine c_fits hws h32 (by omega) h4 (fun g5 v5 bs w5 hlt hg5 hv5 _ _ _ h5 => ?_) (fun g5 w5 hge hg5 h5 => ?_)
      · simp only [↓E2, ↓E3]
        refine tell g5 _ _ 0 w5 (hg4.trans hg5) h5.tail hv5.one ?_
        rw [hval] at hlt
        have : Nat.blt (decV (c0 :: t') 0) (256 ^ 128) = true := by rw [Nat.blt_eq]; exact hlt
        rw [numB, hlead', h400, this]
        rfl
      · simp only [↓E2, ↓E3]
        refine tell g5 _ _ 24 w5 (hg4.trans hg5) h5.tail rfl ?_
        rw [hval] at hge
        have : Nat.blt (decV (c0 :: t') 0) (256 ^ 128) = false := by
          cases hb : Nat.blt (decV (c0 :: t') 0) (256 ^ 128) with
          | false => rfl
          | true => rw [Nat.blt_eq] at hb; omega
        rw [numB, this, Bool.and_false]
        rfl
  · intro k1 hk1
    try simp only [↓E2, ↓E3]
    rw [cnd_dec]
    constructor
    · intro h; simp at h
    intro _
    refine c_odd hd h1 fun w2 h2 => ?_
    try simp only [↓E1, ↓E2, ↓E3]
    rw [cnd_dec]
    constructor
    · intro h; omega
    intro _
    refine ⟨by omega, c0, rfl, ?_⟩
    try simp only [↓E1]
    rw [cnd_dec]
    constructor
    · intro h48
      have h48' : c0 = 48 := by
        apply UInt8.toNat_inj.1
        have : ((c0.toNat : Nat) : Int) = 48 := h48
        show c0.toNat = 48
        omega
      try simp only [↓E1, ↓E2]
      rw [cnd_dec]
      constructor
      · intro h
        refine bdI (cs := [.bool false, .slice none 0 0]) rfl ?_
        refine tell g false _ 11 w2 (.refl g) h2 rfl ?_
        have : (Nat.ble (c0 :: t').length 1 || (c0 :: t').getD 0 0 != 48) = false := by
          rw [h48']
          cases t' with
          | nil => simp at h
          | cons c1 t' => rfl
        rw [numB, this]
        rfl
      · intro h
        try simp only [↓E3]
        refine hk1 _ _ ⟨.inl ?_, h2⟩
        rw [List.length_cons] at h
        omega
    · intro h48
      try simp only [↓E3]
      refine hk1 _ _ ⟨.inr ?_, h2⟩
      rintro rfl
      exact h48 rfl
end Go.Vx
namespace Go.Vx
open Go Go.Proofs
variable {R : Ending → World → Prop} {g : G} {w : World} {H hp T : Hp}

/-- All cells of a block are written. -/
theorem st_all {b n : Nat} {t : TypeId} {c c2 : List Value} (h : Sat g w ((b, .cells c2.toArray t) :: H)) (hc : c.length = n) (hc2 : c2.length = n) (h1 : allOne c = true) {K : World → Prop} (hk : ∀ w', Sat g w' ((b, .cells c.toArray t) :: H) → K w') : st n (ptr b 0) (.agg c.toArray) K w := by
  refine h.st (c := c2) (v := .agg c.toArray) (by simp [Value.cells, hc]) (by omega) (by simpa [Value.cells] using h1) fun w6 h6 => ?_
  have e : wr c2.toArray 0 (Value.agg c.toArray).cells.toList = c.toArray := by
    have := wr0 c c2 (by omega)
    simp only [Value.cells]
    rw [this, List.drop_eq_nil_of_le (by omega)]
    simp
  rw [e] at h6
  exact hk w6 h6

/-- One cell of a block is written. -/
theorem st_one {b o : Nat} {t : TypeId} {c : List Value} {v : Value} (h : Sat g w ((b, .cells c.toArray t) :: H)) (hv : v.cells = #[v]) (h1 : one v = true) (ho : o < c.length) {K : World → Prop} (hk : ∀ w', Sat g w' ((b, .cells (c.set o v).toArray t) :: H) → K w') : st 1 (ptr b o) v K w := by
  refine h.st (c := c) (v := v) (by rw [hv]; rfl) (by omega) (by rw [hv]; simp [allOne, h1]) fun w6 h6 => ?_
  have e : wr c.toArray o v.cells.toList = (c.set o v).toArray := by rw [hv]; simp [wr]
  rw [e] at h6
  exact hk w6 h6

/-- Texts of the program's. -/
abbrev SS (g : G) (v : Value) (l : List (List UInt8)) : Prop := Sl g 1 v l.length (l.map str)
theorem SS.cell {v : Value} {n : Nat} {l : List (List UInt8)} (hT : Sl g 1 v n (l.map str)) (hS : Sat g w H) {k : IntKind} {j : Nat} {x : List UInt8} (hj : l[j]? = some x) {K : Value → World → Prop}
    (hk : ∀ b o, g.cell? b o = some (str x) → K (ptr b o) w) : ia 1 v (.int k (j : Int)) K w := by
  have hn : l.length = n := by obtain ⟨_, _, _, _, h3, _⟩ := hT; simpa using h3
  refine Sl.at hT hS (by rw [← hn]; exact (List.getElem?_eq_some_iff.1 hj).1) (by decide) fun b o h => hk b o ?_
  have := h 0 (str x) (by
    rw [Nat.mul_one, List.getElem?_take]
    simp [hj])
  simpa using this

theorem idxT_drop {t : List UInt8} {l : List (List UInt8)} {k : Nat} {x : List UInt8} (h : l[k]? = some x) : idxT t (l.drop k) k = bif x == t then some k else idxT t (l.drop (k + 1)) (k + 1) := by
  have hlt := (List.getElem?_eq_some_iff.1 h).1
  rw [List.drop_eq_getElem_cons hlt]
  have := (List.getElem?_eq_some_iff.1 h).2
  rw [this]
  rfl

theorem c_index {v : Value} {l : List (List UInt8)} {t : List UInt8} (hv : SS g v l) (hl : l.length ≤ 4611686018427387904) (hS : Sat g w H)
    (hR : R (.returned (i64 (idxI (idxT t l 0)))) w) : Tr P F.slices_Index_string_string [v, str t] w R := by
  apply t_slices_Index_string_string
  unfold d_slices_Index_string_string
  obtain ⟨a, c, rfl, _, _, _⟩ := id hv
  simp only [↓E2]
  refine lp2 (fun m x y w' => w' = w ∧ ∃ k, y = i64 ((k : Nat) : Int) ∧ m = l.length - k ∧ k ≤ l.length ∧ idxT t (l.drop k) k = idxT t l 0) l.length ⟨rfl, 0, rfl, rfl, by omega, rfl⟩ ?_
  rintro m x y w' ⟨rfl, k, rfl, rfl, hk, hi⟩
  simp only [↓E1]
  rw [cnd_dec]
  constructor
  · intro hlt
    obtain ⟨x, hx⟩ : ∃ x, l[k]? = some x := ⟨_, List.getElem?_eq_getElem (by omega)⟩
    refine SS.cell hv hS hx fun b o hb => ?_
    rw [hS.ldI hb]
    simp only [↓E2]
    rw [idxT_drop hx] at hi
    rw [cnd_dec]
    constructor
    · rintro rfl
      rw [beq_self_eq_true, cond_true] at hi
      rw [← hi] at hR
      exact hR
    · intro hne
      have : (x == t) = false := beq_eq_false_iff_ne.2 (fun e => hne e.symm)
      rw [this, cond_false] at hi
      simp only [↓E1, ↓E3]
      rw [wrap64_succ (by omega)]
      exact ⟨l.length - (k + 1), by omega, _, _, rfl, trivial, k + 1, rfl, rfl, by omega, hi⟩
  · intro hge
    have : k = l.length := by omega
    subst this
    rw [List.drop_length] at hi
    rw [← hi] at hR
    exact hR

theorem idxT_contains {t : List UInt8} {l : List (List UInt8)} (k : Nat) : (idxT t l k).isSome = l.contains t := by
  induction l generalizing k with
  | nil => rfl
  | cons x l ih =>
    simp only [idxT, List.contains_cons]
    rw [Bool.beq_comm]
    cases t == x
    · simpa using ih (k + 1)
    · rfl

theorem c_contains {v : Value} {l : List (List UInt8)} {t : List UInt8} (hv : SS g v l) (hl : l.length ≤ 4611686018427387904) (hS : Sat g w H)
    (hR : R (.returned (.bool (l.contains t))) w) : Tr P F.slices_Contains_string_string [v, str t] w R := by
  apply t_slices_Contains_string_string
  unfold d_slices_Contains_string_string
  simp only [↓E2]
  refine c_index hv hl hS ?_
  simp only [↓E1, ↓E3]
  rw [← idxT_contains 0] at hR
  cases h : idxT t l 0 with
  | none => rw [h] at hR; exact hR
  | some k =>
    rw [h] at hR
    have : decide ((0 : Int) ≤ idxI (some k)) = true := by simp [idxI]
    rw [this]
    exact hR

/-- A use's cells. -/
def useC (u : Use) : List Value := [i64 (u.pos : Int), str u.name, i64 u.kind, i64 (u.depth : Int), i64 (u.index : Int), .bool u.write]
abbrev ubx (u : Use) : Obj := .cells (useC u).toArray Ty.scope_Use
def use0 : Use := ⟨0, [], 0, 0, 0, false⟩
/-- What is always the same. -/
def fixU (t : List UInt8) : Use := match fixedS t with | some (k, i) => ⟨0, t, k, 0, i, false⟩ | none => ⟨0, t, 0, 0, 0, false⟩

theorem c_fixed {t : List UInt8} (hS : Sat g w H)
    (hR : ∀ w', Sat g w' H → R (.returned (.tuple #[.agg (useC (fixU t)).toArray, .bool (fixedS t).isSome])) w') : Tr P F.scope_fixed [str t] w R := by
  apply t_scope_fixed
  unfold d_scope_fixed
  refine hS.al fun b2 w1 h1 => ?_
  refine bdI (cs := useC ⟨0, t, 0, 0, 0, false⟩) rfl ?_
  refine h1.al fun b4 w2 h2 => ?_
  have h2 : Sat g w2 ((b4, ubx use0) :: (b2, ubx use0) :: H) := h2
  refine st_all (c := useC ⟨0, t, 0, 0, 0, false⟩) (c2 := useC use0) h2 rfl rfl rfl fun w3 h3 => ?_
  -- what is told
  have fin : ∀ (u : Use) (q : Bool) (w' : World), Sat g w' ((b4, ubx u) :: (b2, ubx use0) :: H) → (∀ w', Sat g w' H → R (.returned (.tuple #[.agg (useC u).toArray, .bool q])) w') →
      ldn 6 (ptr b4 0) (fun t25 w => st 6 (ptr b2 0) t25 (fun w => ldn 6 (ptr b2 0) (fun r0 w => R (.returned (.tuple #[r0, (.bool q)])) w) w) w) w' := by
    intro u q w' h hr
    refine h.ldn0 (c := useC u) rfl ?_
    refine st_all (c := useC u) (c2 := useC use0) h.swap2 rfl rfl rfl fun w4 h4 => ?_
    refine h4.ldn0 (c := useC u) rfl ?_
    exact hr w4 h4.tail.tail
  have e1 : (Value.string { data := #[115, 101, 108, 102] }) = str selfT := rfl
  have e2 : (Value.string { data := #[115, 117, 112, 101, 114] }) = str superT := rfl
  have e3 : (Value.string { data := #[110, 105, 108] }) = str nilT := rfl
  have e4 : (Value.string { data := #[102, 97, 108, 115, 101] }) = str falseT := rfl
  have e5 : (Value.string { data := #[116, 114, 117, 101] }) = str trueT := rfl
  rw [e1, e2, e3, e4, e5]
  unfold fixU fixedS at hR
  simp only [↓E1, ↓E2, ↓E3]
  rw [cnd_dec]
  constructor
  · intro h
    rw [beq_iff_eq.2 h] at hR
    exact fin _ _ w3 h3 hR
  intro h
  rw [beq_eq_false_iff_ne.2 h] at hR
  clear h
  rw [cnd_dec]
  constructor
  · intro h
    rw [beq_iff_eq.2 h] at hR
    refine st_one h3 rfl rfl (by simp [useC]) fun w4 h4 => ?_
    exact fin ⟨0, t, (1 : Nat), 0, 0, false⟩ _ w4 h4 hR
  intro h
  rw [beq_eq_false_iff_ne.2 h] at hR
  clear h
  rw [cnd_dec]
  constructor
  · intro h
    rw [beq_iff_eq.2 h] at hR
    refine st_one h3 rfl rfl (by simp [useC]) fun w4 h4 => ?_
    exact fin ⟨0, t, (2 : Nat), 0, 0, false⟩ _ w4 h4 hR
  intro h
  rw [beq_eq_false_iff_ne.2 h] at hR
  clear h
  rw [cnd_dec]
  constructor
  · intro h
    rw [beq_iff_eq.2 h] at hR
    refine st_one h3 rfl rfl (by simp [useC]) fun w4 h4 => ?_
    refine st_one h4 rfl rfl (by simp [useC]) fun w5 h5 => ?_
    exact fin ⟨0, t, (2 : Nat), 0, 1, false⟩ _ w5 h5 hR
  intro h
  rw [beq_eq_false_iff_ne.2 h] at hR
  clear h
  rw [cnd_dec]
  constructor
  · intro h
    rw [beq_iff_eq.2 h] at hR
    refine st_one h3 rfl rfl (by simp [useC]) fun w4 h4 => ?_
    refine st_one h4 rfl rfl (by simp [useC]) fun w5 h5 => ?_
    exact fin ⟨0, t, (2 : Nat), 0, 2, false⟩ _ w5 h5 hR
  intro h
  rw [beq_eq_false_iff_ne.2 h] at hR
  exact fin _ _ w3 h3 hR
end Go.Vx
namespace Go.Vx
open Go Go.Proofs
variable {R : Ending → World → Prop} {g : G} {w : World} {H hp T : Hp}

/-- Units about a place. -/
inductive FrR (g : G) : Value → List Fr → Prop
  | nil : FrR g (.pointer none) []
  | cons {b n : Nat} {names : List (List UInt8)} {rest : List Fr} {nv av : Value} (h3 : g.cell? b 3 = some (i64 (n : Int))) (h4 : g.cell? b 4 = some nv) (hn : SS g nv names) (hl : names.length ≤ 4611686018427387904)
      (h6 : g.cell? b 6 = some av) (hr : FrR g av rest) : FrR g (ptr b 0) (⟨names, n⟩ :: rest)
theorem FrR.mono {g g' : G} (hg : g.le g') {v : Value} {fs : List Fr} (h : FrR g v fs) : FrR g' v fs := by
  induction h with
  | nil => exact .nil
  | cons h3 h4 hn hl h6 _ ih => exact .cons (hg.cell h3) (hg.cell h4) (hn.mono hg) hl (hg.cell h6) ih

/-- A walk's block. -/
abbrev wlk (sv lv : Value) : Obj := .cells [sv, lv].toArray Ty.scope_walk

theorem idxT_lt {t : List UInt8} {l : List (List UInt8)} {k i : Nat} (h : idxT t l i = some k) : i ≤ k ∧ k < i + l.length := by
  induction l generalizing i with
  | nil => simp [idxT] at h
  | cons x l ih =>
    simp only [idxT] at h
    cases hb : x == t with
    | true =>
      rw [hb] at h
      simp at h
      subst h
      simp
    | false =>
      rw [hb] at h
      have := ih h
      simp only [List.length_cons]
      omega

theorem c_find {wb : Nat} {sv lv fv : Value} {slots : List (List UInt8)} {t : List UInt8} {fs : List Fr} (hsl : SS g sv slots) (hsn : slots.length ≤ 4611686018427387904) (hf : FrR g fv fs) (hfl : fs.length ≤ 4611686018427387904) (hS : Sat g w ((wb, wlk sv lv) :: H))
    (hR : ∀ w', Sat g w' ((wb, wlk sv lv) :: H) → R (.returned (.tuple #[.agg (useC (findS slots t fs).1).toArray, .bool (findS slots t fs).2])) w') : Tr P F.scope_walk_find [ptr wb 0, str t, fv] w R := by
  apply t_scope_walk_find
  unfold d_scope_walk_find
  refine hS.al fun b6 w1 h1 => ?_
  try simp only [↓E2]
  refine c_fixed h1 fun w2 h2 => ?_
  obtain ⟨u0, hu0⟩ : ∃ u0, u0 = fixU t := ⟨_, rfl⟩
  rw [← hu0]
  try simp only [↓E2, ↓E3]
  refine h2.al fun b8 w3 h3 => ?_
  have h3 : Sat g w3 ((b8, ubx use0) :: (b6, ubx use0) :: (wb, wlk sv lv) :: H) := h3
  refine st_all (c := useC u0) (c2 := useC use0) h3 rfl rfl rfl fun w4 h4 => ?_
  -- what is told
  have fin : ∀ (u : Use) (q : Bool) (w' : World), Sat g w' ((b8, ubx u) :: (b6, ubx use0) :: (wb, wlk sv lv) :: H) → (u, q) = findS slots t fs →
      ldn 6 (ptr b8 0) (fun t25 w => st 6 (ptr b6 0) t25 (fun w => ldn 6 (ptr b6 0) (fun r0 w => R (.returned (.tuple #[r0, (.bool q)])) w) w) w) w' := by
    intro u q w' h he
    refine h.ldn0 (c := useC u) rfl ?_
    refine st_all (c := useC u) (c2 := useC use0) h.swap2 rfl rfl rfl fun w4 h4 => ?_
    refine h4.ldn0 (c := useC u) rfl ?_
    have := hR w4 h4.tail.tail
    rw [← he] at this
    exact this
  rw [cnd_eq]
  constructor
  · intro hs
    refine fin u0 false w4 h4 ?_
    unfold findS
    rw [hu0]
    unfold fixU
    cases hfx : fixedS t with
    | none => rw [hfx] at hs; simp at hs
    | some x => rfl
  intro hs
  have hfx : fixedS t = none := by
    cases hfx : fixedS t with
    | none => rfl
    | some x => rw [hfx] at hs; simp at hs
  have hu0 : u0 = ⟨0, t, 0, 0, 0, false⟩ := by
    rw [hu0]
    unfold fixU
    rw [hfx]
  subst hu0
  have hfs : findS slots t fs = (match findF t fs 0 with
      | some (d, k, a) => (⟨0, t, 3, d, k, false⟩, a)
      | none => match idxT t slots 0 with
        | some k => (⟨0, t, 4, 0, k, false⟩, false)
        | none => (⟨0, t, bif capB t then 5 else -1, 0, 0, false⟩, false)) := by
    unfold findS
    rw [hfx]
    try rfl
  refine lp3 (fun m x y z w' => ∃ fs' d, z = i64 ((d : Nat) : Int) ∧ m = fs'.length ∧ d + fs'.length = fs.length ∧ FrR g x fs' ∧ findF t fs' d = findF t fs 0 ∧ Sat g w' ((b8, ubx ⟨0, t, 0, 0, 0, false⟩) :: (b6, ubx use0) :: (wb, wlk sv lv) :: H)) fs.length
    ⟨fs, 0, rfl, rfl, by omega, hf, rfl, h4⟩ ?_
  rintro m x y z w5 ⟨fs', d, rfl, rfl, hd, hfr, hfd, h5⟩
  cases hfr with
  | nil =>
    rw [bNn_neq]
    try simp only [↓E1, ↓E2, ↓E3]
    simp only [findF] at hfd
    rw [← hfd] at hfs
    simp only [] at hfs
    refine st_one h5 rfl rfl (by simp [useC]) fun w6 h6 => ?_
    have h6 : Sat g w6 ((b8, ubx ⟨0, t, -1, 0, 0, false⟩) :: (b6, ubx use0) :: (wb, wlk sv lv) :: H) := h6
    rw [h6.ld2 0 _ (by simp)]
    try simp only [↓E1, ↓E2, ↓E3]
    refine c_index hsl hsn h6 ?_
    try simp only [↓E1, ↓E2, ↓E3]
    cases hix : idxT t slots 0 with
    | some k =>
      rw [hix] at hfs
      rw [cnd_dec]
      constructor
      · intro _
        refine st_one h6 rfl rfl (by simp [useC]) fun w7 h7 => ?_
        refine st_one h7 rfl rfl (by simp [useC]) fun w8 h8 => ?_
        exact fin ⟨0, t, 4, 0, k, false⟩ false w8 h8 hfs.symm
      · intro h
        exact absurd (Int.natCast_nonneg k) h
    | none =>
      rw [hix] at hfs
      simp only [] at hfs
      rw [cnd_dec]
      constructor
      · intro h
        simp [idxI] at h
      intro _
      have es : (Value.string { data := #[] }) = str [] := rfl
      try rw [es]
      try simp only [↓E2]
      rw [cnd_ndec]
      constructor
      · intro hne
        obtain ⟨c, t', rfl⟩ : ∃ c t', t = c :: t' := by
          cases t with
          | nil => exact absurd rfl hne
          | cons c t' => exact ⟨c, t', rfl⟩
        refine ⟨by omega, c, rfl, ?_⟩
        try simp only [↓E1]
        rw [cnd_dec]
        constructor
        · intro hlo
          have e1 : Nat.ble 65 c.toNat = true := Nat.ble_eq_true_of_le (by omega)
          refine ⟨by omega, c, rfl, ?_⟩
          try simp only [↓E1]
          rw [cnd_dec]
          constructor
          · intro hhi
            have e2 : Nat.ble c.toNat 90 = true := Nat.ble_eq_true_of_le (by omega)
            have e3 : capB (c :: t') = _ := rfl
            simp only [e1, e2, capB] at hfs
            refine st_one h6 rfl rfl (by simp [useC]) fun w7 h7 => ?_
            exact fin ⟨0, c :: t', 5, 0, 0, false⟩ false w7 h7 hfs.symm
          · intro hhi
            have e2 : Nat.ble c.toNat 90 = false := by
              cases hb : Nat.ble c.toNat 90 with
              | false => rfl
              | true => have := Nat.le_of_ble_eq_true hb; omega
            have e3 : capB (c :: t') = _ := rfl
            simp only [e1, e2, capB] at hfs
            exact fin _ false w6 h6 hfs.symm
        · intro hlo
          have e1 : Nat.ble 65 c.toNat = false := by
            cases hb : Nat.ble 65 c.toNat with
            | false => rfl
            | true => have := Nat.le_of_ble_eq_true hb; omega
          simp only [e1, capB] at hfs
          exact fin _ false w6 h6 hfs.symm
      · rintro rfl
        exact fin _ false w6 h6 hfs.symm
  | @cons b n names rest nv av c3 c4 hn hl c6 hr =>
    rw [bNp_neq]
    try simp only [↓E1, ↓E2, ↓E3, Nat.reduceAdd]
    rw [h5.ldI c4]
    try simp only [↓E1, ↓E2, ↓E3]
    refine c_index hn hl h5 ?_
    try simp only [↓E1, ↓E2, ↓E3]
    simp only [findF] at hfd
    cases hix : idxT t names 0 with
    | some k =>
      rw [hix] at hfd
      simp only [] at hfd
      rw [← hfd] at hfs
      simp only [] at hfs
      rw [cnd_dec]
      constructor
      · intro _
        refine st_one h5 rfl rfl (by simp [useC]) fun w7 h7 => ?_
        refine st_one h7 rfl rfl (by simp [useC]) fun w8 h8 => ?_
        refine st_one h8 rfl rfl (by simp [useC]) fun w9 h9 => ?_
        have h9 : Sat g w9 ((b8, ubx ⟨0, t, 3, d, k, false⟩) :: (b6, ubx use0) :: (wb, wlk sv lv) :: H) := h9
        have h10 := h9.drew
        try simp only [↓E1, ↓E2, ↓E3, Nat.reduceAdd]
        refine h10.ldn0 (c := useC ⟨0, t, 3, d, k, false⟩) rfl ?_
        try simp only [↓E1, ↓E2, ↓E3, Nat.reduceAdd]
        rw [h10.ldI c3]
        try simp only [↓E1, ↓E2, ↓E3, Nat.reduceAdd]
        refine st_all (c := useC ⟨0, t, 3, d, k, false⟩) (c2 := useC use0) h10.swap2 rfl rfl rfl fun w11 h11 => ?_
        refine h11.rkI c3 ?_
        refine h11.ldn0 (c := useC ⟨0, t, 3, d, k, false⟩) rfl ?_
        have := hR w11 h11.tail.tail
        rw [hfs] at this
        have e : decide (idxI (some k) < (n : Int)) = Nat.blt k n := by
          rw [Bool.eq_iff_iff, Nat.blt_eq]
          simp [idxI]
        rw [e]
        exact this
      · intro h
        exact absurd (Int.natCast_nonneg k) h
    | none =>
      rw [hix] at hfd
      simp only [] at hfd
      rw [cnd_dec]
      constructor
      · intro h
        simp [idxI] at h
      intro _
      have h10 := h5.drew
      try simp only [↓E1, ↓E2, ↓E3, Nat.reduceAdd]
      rw [wrap64_succ (by simp only [List.length_cons] at hd; omega)]
      try simp only [↓E1, ↓E2, ↓E3, Nat.reduceAdd]
      rw [h10.ldI c6]
      try simp only [↓E3]
      exact ⟨rest.length, by simp, _, _, _, rfl, rest, d + 1, rfl, rfl, by simp only [List.length_cons] at hd; omega, hr, hfd, h10⟩
end Go.Vx
namespace Go.Vx
open Go Go.Proofs
variable {R : Ending → World → Prop} {g : G} {w : World} {H hp T : Hp}

def useZ (l : List Use) : List Value := (l.map useC).flatten
theorem useZ_snoc (l : List Use) (u : Use) : useZ (l ++ [u]) = useZ l ++ useC u := by simp [useZ]
/-- What somebody who does not know a name leaves. -/
def stopS (p : Nat) : List PanicEntry := [{ v := .iface Ty.scope_stop (.agg #[i64 (p : Int)]), recovered := false }]

def unitU (slots : List (List UInt8)) : Node → List Fr → List Use → Except Nat (List Use)
  | .mk _ _ p n ns ks, fs, acc => bif namesOK [] ns then partsU slots ks (⟨ns, n⟩ :: fs) false true acc else .error p

/-- What comes of a part or a unit. -/
def OutU (g : G) (R : Ending → World → Prop) (wb : Nat) (sv : Value) (H : Hp) (n : Nat) (res : Except Nat (List Use)) : Prop :=
  (∀ acc', res = .ok acc' → ∀ g' lv' hp' w', g.le g' → acc'.length ≤ n → Grow Ty.scope_Use 6 lv' acc'.length (useZ acc') hp' → Sat g' w' ((wb, wlk sv lv') :: (hp' ++ H)) → R (.returned (.tuple #[])) w') ∧
  (∀ p, res = .error p → ∀ g' w', g.le g' → Sat g' w' H → R (.panicked (stopS p)) w')

def PartU (n : Node) : Prop := ∀ {g : G} {w : World} {H hp : Hp} {R : Ending → World → Prop} {wb : Nat} {sv lv fv : Value} {slots : List (List UInt8)} {fs : List Fr} {c : List Value} {to : Bool} {acc : List Use},
  SS g sv slots → slots.length ≤ 4611686018427387904 → FrR g fv fs → NodeR g c n → Grow Ty.scope_Use 6 lv acc.length (useZ acc) hp → acc.length + (fs.length + msr n) ≤ 1073741824 →
  Sat g w ((wb, wlk sv lv) :: (hp ++ H)) → OutU g R wb sv H (acc.length + msr n) (partU slots n fs to acc) → Tr P F.scope_walk_part [ptr wb 0, .agg c.toArray, fv, .bool to] w R

def UnitU (n : Node) : Prop := ∀ {g : G} {w : World} {H hp : Hp} {R : Ending → World → Prop} {wb : Nat} {sv lv fv : Value} {slots : List (List UInt8)} {fs : List Fr} {c : List Value} {acc : List Use},
  SS g sv slots → slots.length ≤ 4611686018427387904 → FrR g fv fs → NodeR g c n → Grow Ty.scope_Use 6 lv acc.length (useZ acc) hp → acc.length + (fs.length + msr n) ≤ 1073741824 →
  Sat g w ((wb, wlk sv lv) :: (hp ++ H)) → OutU g R wb sv H (acc.length + msr n) (unitU slots n fs acc) → Tr P F.scope_walk_unit [ptr wb 0, .agg c.toArray, fv] w R

theorem FrR.ptr {v : Value} {fs : List Fr} (h : FrR g v fs) : ∃ p, v = .pointer p := by cases h <;> exact ⟨_, rfl⟩

theorem KR.at {kv : Value} {ks : List Node} {kcs : List (List Value)} (hk : Sl g 6 kv ks.length kcs.flatten) (hr : KR g kcs ks) {i : Nat} {k : Node} (hi : ks[i]? = some k) (hS : Sat g w H) {K : Value → World → Prop}
    (hK : ∀ c, NodeR g c k → K (.agg c.toArray) w) : ia 6 kv (i64 (i : Int)) (fun t w => ldn 6 t K w) w := by
  have hlt := (List.getElem?_eq_some_iff.1 hi).1
  obtain ⟨c, hc⟩ : ∃ c, kcs[i]? = some c := ⟨_, List.getElem?_eq_getElem (by rw [hr.1]; exact hlt)⟩
  have hn := hr.2 i c k hc hi
  refine Sl.at hk hS hlt (by decide) fun b o hcell => ?_
  have hlen := hn.len
  have hcs : (kcs.flatten.drop (i * 6)).take 6 = c := by
    have key : ∀ (kcs : List (List Value)) (ks : List Node) (i : Nat), KR g kcs ks → kcs[i]? = some c → (kcs.flatten.drop (i * 6)).take 6 = c := by
      intro kcs
      induction kcs with
      | nil => intro ks i _ h; simp at h
      | cons a kcs ih =>
        intro ks i hr h
        cases ks with
        | nil => have := hr.1; simp at this
        | cons k0 ks =>
          have ha := (hr.2 0 a k0 rfl rfl).len
          cases i with
          | zero =>
            simp only [List.getElem?_cons_zero, Option.some.injEq] at h
            subst h
            simp only [Nat.zero_mul, List.drop_zero, List.flatten_cons]
            rw [← ha, List.take_left']
            rfl
          | succ i =>
            have := ih ks i ⟨by simpa using hr.1, fun j c' k' h1 h2 => hr.2 (j + 1) c' k' (by simpa using h1) (by simpa using h2)⟩ (by simpa using h)
            rw [List.flatten_cons, show (i + 1) * 6 = a.length + i * 6 from by rw [ha]; omega, ← List.drop_drop, List.drop_left']
            · exact this
            · rfl
    exact key kcs ks i hr hc
  rw [hcs] at hcell
  have := hS.ldnI (b := b) (o := o) (vs := c) (K := K) hcell (hK c hn)
  rw [hlen] at this
  exact this

theorem c_unitU {k p nn : Nat} {t : List UInt8} {ns : List (List UInt8)} {ks : List Node} (ih : ∀ x ∈ ks, PartU x) : UnitU (.mk k t p nn ns ks) := by
  intro g w H hp R wb sv lv fv slots fs c acc hsl hsn hf hn hgr hb hS hR
  apply t_scope_walk_unit
  unfold d_scope_walk_unit
  cases hn with
  | @mk _ _ _ _ _ _ nv kv kcs hnv hkv hkl hkr =>
  obtain ⟨pf, rfl⟩ := hf.ptr
  have hkr : KR g kcs ks := ⟨hkl, hkr⟩
  simp only [msr] at hb hR
  have hnl := len_nsM ns
  have hkl2 := len_msrs ks
  obtain ⟨na, nc, rfl, hnc, _, _⟩ := id hnv
  obtain ⟨ka, kc, rfl, hkc, _, _⟩ := id hkv
  obtain ⟨c, hcd⟩ : ∃ c, c = [i64 (k : Int), str t, i64 (p : Int), i64 (nn : Int), Value.slice na ns.length nc, Value.slice ka ks.length kc] := ⟨_, rfl⟩
  refine hS.al fun b4 w1 h1 => ?_
  have h1 : Sat g w1 ((b4, box c) :: (wb, wlk sv lv) :: (hp ++ H)) := by rw [hcd]; exact h1
  refine h1.ldn0 (c := c) (by rw [hcd]; rfl) ?_
  refine bdI (cs := c ++ [Value.pointer pf]) (by rw [hcd]; rfl) ?_
  refine h1.tail.al fun b16 w2 h2 => ?_
  have h2 : Sat g w2 ((b16, .cells (c ++ [Value.pointer pf]).toArray 144) :: (wb, wlk sv lv) :: (hp ++ H)) := h2
  obtain ⟨h3, hg3⟩ := h2.freeze
  generalize hg3d : g.add b16 (.cells (c ++ [Value.pointer pf]).toArray 144) = g3 at h3 hg3
  have cell : ∀ o v, (c ++ [Value.pointer pf])[o]? = some v → g3.cell? b16 o = some v := by
    intro o v h
    rw [← hg3d, add_cell]
    simpa using h
  have cl2 : g3.cell? b16 2 = some (i64 (p : Int)) := cell 2 _ (by rw [hcd]; rfl)
  have cl3 : g3.cell? b16 3 = some (i64 (nn : Int)) := cell 3 _ (by rw [hcd]; rfl)
  have cl4 : g3.cell? b16 4 = some (Value.slice na ns.length nc) := cell 4 _ (by rw [hcd]; rfl)
  have cl5 : g3.cell? b16 5 = some (Value.slice ka ks.length kc) := cell 5 _ (by rw [hcd]; rfl)
  have cl6 : g3.cell? b16 6 = some (Value.pointer pf) := cell 6 _ (by rw [hcd]; rfl)
  have hnv3 := hnv.mono hg3
  have hkv3 := hkv.mono hg3
  have hkr3 := hkr.mono hg3
  have hfr3 : FrR g3 (ptr b16 0) (⟨ns, nn⟩ :: fs) := .cons cl3 cl4 hnv3 (by omega) cl6 (hf.mono hg3)
  clear cell hg3d h2 h1
  try simp only [↓E1, ↓E2, ↓E3, Nat.reduceAdd]
  rw [h3.ldI cl4]
  try simp only [↓E1, ↓E2, ↓E3, Nat.reduceAdd]
  -- somebody does not know it
  have bad : ∀ w', Sat g3 w' ((wb, wlk sv lv) :: (hp ++ H)) → namesOK [] ns = false → ld (ptr b16 2) (fun t49 w => bd [.int .i64 0] [(0, 1, t49)] (fun t50 w => R (.panicked [{ v := .iface 104 t50, recovered := false }]) w) w) w' := by
    intro w' h hno
    rw [h.ldI cl2]
    refine bdI (cs := [i64 (p : Int)]) rfl ?_
    exact hR.2 p (by simp only [unitU, hno, cond_false]) g3 w' hg3 h.tail.drop
  refine lp1 (fun m x w' => ∃ i, x = i64 ((i : Nat) : Int) ∧ m = ns.length - i ∧ i ≤ ns.length ∧ namesOK (ns.take i) (ns.drop i) = namesOK [] ns ∧ Sat g3 w' ((wb, wlk sv lv) :: (hp ++ H))) ns.length
    ⟨0, rfl, rfl, by omega, rfl, h3⟩ ?_
  rintro m x w4 ⟨i, rfl, rfl, hi, hno, h4⟩
  try simp only [↓E1, ↓E2, ↓E3]
  rw [cnd_dec]
  constructor
  · intro hlt
    obtain ⟨t1, ht1⟩ : ∃ t1, ns[i]? = some t1 := ⟨_, List.getElem?_eq_getElem (by omega)⟩
    refine SS.cell hnv3 h4 ht1 fun bn on hbn => ?_
    rw [h4.ldI hbn]
    have hdr : ns.drop i = t1 :: ns.drop (i + 1) := by
      rw [List.drop_eq_getElem_cons (List.getElem?_eq_some_iff.1 ht1).1, (List.getElem?_eq_some_iff.1 ht1).2]
    have htk : ns.take i ++ [t1] = ns.take (i + 1) := by
      rw [List.take_add_one, ht1]; rfl
    rw [hdr] at hno
    simp only [namesOK, htk] at hno
    try simp only [↓E1, ↓E2, ↓E3]
    refine c_fixed h4 fun w5 h5 => ?_
    try simp only [↓E1, ↓E2, ↓E3]
    refine h5.al fun b9 w6 h6 => ?_
    have h6 : Sat g3 w6 ((b9, ubx use0) :: (wb, wlk sv lv) :: (hp ++ H)) := h6
    refine st_all (c := useC (fixU t1)) (c2 := useC use0) h6 rfl rfl rfl fun w7 h7 => ?_
    refine jnI ?_
    have next : ∀ w', Sat g3 w' ((wb, wlk sv lv) :: (hp ++ H)) → ((fixedS t1).isSome || (ns.take i).contains t1) = false → ∃ m', m' < ns.length - i ∧ ∃ y, [i64 (IntKind.i64.wrap ((i : Int) + 1))] = [y] ∧ ∃ i, y = i64 ((i : Nat) : Int) ∧ m' = ns.length - i ∧ i ≤ ns.length ∧ namesOK (ns.take i) (ns.drop i) = namesOK [] ns ∧ Sat g3 w' ((wb, wlk sv lv) :: (hp ++ H)) := by
      intro w' h hb
      rw [wrap64_succ (by omega)]
      rw [hb, Bool.not_false, Bool.true_and] at hno
      exact ⟨ns.length - (i + 1), by omega, _, rfl, i + 1, rfl, rfl, by omega, hno, h⟩
    rw [cnd_eq]
    constructor
    · intro hsome
      try simp only [↓E1, ↓E2, ↓E3, Nat.reduceAdd]
      refine bad w7 h7.tail ?_
      rw [hsome, Bool.true_or, Bool.not_true, Bool.false_and] at hno
      exact hno.symm
    · intro hnone
      try simp only [↓E1, ↓E2, ↓E3, Nat.reduceAdd]
      rw [h7.ldI cl4]
      refine slL_hi _ _ _ _ _ _ (by omega) (by omega) ?_
      try simp only [↓E1, ↓E2, ↓E3, Nat.reduceAdd]
      have hsub := Sl.take (k := i) hnv3 hi
      have hsub2 : SS g3 (Value.slice na i nc) (ns.take i) := by
        show Sl g3 1 _ (ns.take i).length _
        rw [List.length_take, Nat.min_eq_left hi]
        have : (ns.map str).take (i * 1) = (ns.take i).map str := by rw [Nat.mul_one, List.map_take]
        rw [← this]
        exact hsub
      rw [Int.toNat_natCast]
      refine c_contains hsub2 (by rw [List.length_take]; omega) h7 ?_
      try simp only [↓E1, ↓E2, ↓E3, Nat.reduceAdd]
      rw [cnd_eq]
      constructor
      · intro hcon
        refine bad w7 h7.tail ?_
        rw [hcon, Bool.or_true, Bool.not_true, Bool.false_and] at hno
        exact hno.symm
      · intro hcon
        exact next w7 h7.tail (by rw [hnone, hcon]; rfl)
  · intro hge
    have : i = ns.length := by omega
    subst this
    have hok : namesOK [] ns = true := by
      rw [← hno, List.drop_length]
      rfl
    have hun : unitU slots (.mk k t p nn ns ks) fs acc = partsU slots ks (⟨ns, nn⟩ :: fs) false true acc := by
      simp only [unitU, hok, cond_true]
    rw [hun] at hR
    try simp only [↓E1, ↓E2, ↓E3, Nat.reduceAdd]
    rw [h4.ldI cl5]
    try simp only [↓E1, ↓E2, ↓E3, Nat.reduceAdd]
    refine lp1 (fun m x w' => ∃ i g' lv' hp' acc' first, x = i64 ((i : Nat) : Int) ∧ m = ks.length - i ∧ i ≤ ks.length ∧ g3.le g' ∧ acc'.length + msrs (ks.drop i) ≤ acc.length + msrs ks ∧ Grow Ty.scope_Use 6 lv' acc'.length (useZ acc') hp' ∧
        partsU slots (ks.drop i) (⟨ns, nn⟩ :: fs) false first acc' = partsU slots ks (⟨ns, nn⟩ :: fs) false true acc ∧ Sat g' w' ((wb, wlk sv lv') :: (hp' ++ H))) ks.length
      ⟨0, g3, lv, hp, acc, true, rfl, rfl, by omega, .refl g3, Nat.le_refl _, hgr, rfl, h4⟩ ?_
    rintro m x w5 ⟨i, g5, lv5, hp5, acc5, first, rfl, rfl, hi5, hg5, hl5, hgr5, hpu, h5⟩
    try simp only [↓E1, ↓E2, ↓E3]
    rw [cnd_dec]
    constructor
    · intro hlt
      obtain ⟨x, hx⟩ : ∃ x, ks[i]? = some x := ⟨_, List.getElem?_eq_getElem (by omega)⟩
      have hxm : x ∈ ks := List.mem_of_getElem? hx
      refine (hkr3.mono hg5).at (hkv3.mono hg5) hx h5 fun c5 hc5 => ?_
      refine h5.al fun b12 w6 h6 => ?_
      refine st_box (c2 := zN) h6 hc5.len rfl hc5.one fun w7 h7 => ?_
      refine h7.ldn0 (c := c5) hc5.len.symm ?_
      have hdr : ks.drop i = x :: ks.drop (i + 1) := by
        rw [List.drop_eq_getElem_cons (List.getElem?_eq_some_iff.1 hx).1, (List.getElem?_eq_some_iff.1 hx).2]
      rw [hdr] at hpu hl5
      simp only [msrs] at hl5
      simp only [partsU, Bool.false_and] at hpu
      try simp only [↓E1, ↓E2, ↓E3]
      refine ih x hxm (hsl.mono (hg3.trans hg5)) hsn (hfr3.mono hg5) hc5 hgr5 (by simp only [List.length_cons]; omega) h7.tail ⟨fun acc6 he g6 lv6 hp6 w8 hg6 hl6 hgr6 h8 => ?_, fun q he g6 w8 hg6 h8 => ?_⟩
      · rw [he] at hpu
        simp only [] at hpu
        try simp only [↓E1, ↓E2, ↓E3]
        rw [wrap64_succ (by omega)]
        exact ⟨ks.length - (i + 1), by omega, _, rfl, i + 1, g6, lv6, hp6, acc6, false, rfl, rfl, by omega, hg5.trans hg6, by omega, hgr6, hpu, h8⟩
      · rw [he] at hpu
        simp only [] at hpu
        try simp only [↓E1, ↓E2, ↓E3]
        exact hR.2 q hpu.symm g6 w8 (hg3.trans (hg5.trans hg6)) h8
    · intro hge5
      have : i = ks.length := by omega
      subst this
      rw [List.drop_length] at hpu
      exact hR.1 acc5 hpu.symm g5 lv5 hp5 w5 (hg3.trans hg5) (by omega) hgr5 h5
end Go.Vx
namespace Go.Vx
open Go Go.Proofs
variable {R : Ending → World → Prop} {g : G} {w : World} {H hp T : Hp}

theorem fillU (u : Use) : fillV ((List.range (1 * (useC use0).length)).map (fun i => (useC use0).getD (i % (useC use0).length) undef)) [(0, 6, .agg (useC u).toArray)] = some (useC u) := rfl

/-- What is used is put behind what was. -/
theorem put_use {b8 wb : Nat} {sv lv : Value} {acc : List Use} {u : Use} (hgr : Grow Ty.scope_Use 6 lv acc.length (useZ acc) hp) (hn : acc.length ≤ 1073741824) (h : Sat g w ((b8, ubx u) :: (wb, wlk sv lv) :: (hp ++ H)))
    {K : World → Prop} (hk : ∀ lv' hp' w', Grow Ty.scope_Use 6 lv' (acc.length + 1) (useZ (acc ++ [u])) hp' → Sat g w' ((wb, wlk sv lv') :: (hp' ++ ((b8, ubx u) :: H))) → K w') :
    ld (ptr wb 1) (fun t49 w => ldn 6 (ptr b8 0) (fun t50 w => bs 146 [.int .i64 0, .string ⟨#[]⟩, .int .i64 0, .int .i64 0, .int .i64 0, .bool false] 1 [(0, 6, t50)] (fun t51 w =>
      rk false (ptr wb 1) t49 (ap 146 6 56 [.int .i64 0, .string ⟨#[]⟩, .int .i64 0, .int .i64 0, .int .i64 0, .bool false] t49 t51 (fun t52 w => st 1 (ptr wb 1) t52 K w) w) w) w) w) w := by
  rw [h.ld1 1 _ (by simp)]
  refine h.ldn0 (c := useC u) rfl ?_
  refine h.bs (cs := useC u) (fillU u) fun b51 w2 h2 => ?_
  refine h2.rk (b := wb) (t := Ty.scope_walk) (fr := (0, 0)) (c := [sv, lv]) (by simp) rfl ?_
  have h3 : Sat g w2 ((b51, .cells (useC u).toArray 146) :: (hp ++ ((b8, ubx u) :: (wb, wlk sv lv) :: H))) := h2.perm (.cons _ (List.perm_append_comm_assoc [_, _] hp _))
  refine h3.ap1 (m := 1) hgr rfl rfl rfl (by omega) (by omega) fun lv' hp' w4 hgr' h4 => ?_
  have h5 : Sat g w4 ((wb, wlk sv lv) :: (hp' ++ ((b8, ubx u) :: H))) := by
    have := Sat.front (A := hp' ++ [(b8, ubx u)]) (x := (wb, wlk sv lv)) (B := H) (by simpa using h4)
    simpa using this
  have hv : lv'.cells = #[lv'] ∧ one lv' = true := by obtain ⟨a, c, rfl⟩ := hgr'.slice; exact ⟨rfl, rfl⟩
  refine st_one h5 hv.1 hv.2 (by simp) fun w6 h6 => ?_
  refine hk lv' hp' w6 ?_ h6
  rw [useZ_snoc]
  exact hgr'

theorem findS_use {slots : List (List UInt8)} {t : List UInt8} {fs : List Fr} : (findS slots t fs).1.name = t := by
  unfold findS
  split
  · rfl
  · split
    · rfl
    · split <;> rfl

theorem partU_ok : ∀ n, PartU n := by
  refine Node.ind fun k t p nn ns ks ih => ?_
  intro g w H hp R wb sv lv fv slots fs c to acc hsl hsn hf hn hgr hb hS hR
  have hcu : UnitU (.mk k t p nn ns ks) := c_unitU (k := k) (p := p) (nn := nn) (t := t) (ns := ns) ih
  apply t_scope_walk_part
  unfold d_scope_walk_part
  have hn0 := hn
  cases hn with
  | @mk _ _ _ _ _ _ nv kv kcs hnv hkv hkl hkr =>
  have hkr : KR g kcs ks := ⟨hkl, hkr⟩
  have hb0 := hb
  simp only [msr] at hb hR
  have hkl2 := len_msrs ks
  obtain ⟨ka, kc, rfl, hkc, _, _⟩ := id hkv
  obtain ⟨c, hcd⟩ : ∃ c, c = [i64 (k : Int), str t, i64 (p : Int), i64 (nn : Int), nv, Value.slice ka ks.length kc] := ⟨_, rfl⟩
  rw [← hcd] at hn0 ⊢
  have hclen : c.length = 6 := by rw [hcd]; rfl
  have g0 : c.getD 0 undef = i64 (k : Int) := by rw [hcd]; rfl
  have g1 : c.getD 1 undef = str t := by rw [hcd]; rfl
  have g2 : c.getD 2 undef = i64 (p : Int) := by rw [hcd]; rfl
  have g5 : c.getD 5 undef = Value.slice ka ks.length kc := by rw [hcd]; rfl
  clear hcd
  refine hS.al fun b5 w1 h1 => ?_
  have h1 : Sat g w1 ((b5, box c) :: (wb, wlk sv lv) :: (hp ++ H)) := by
    have e : (Value.agg c.toArray).cells.toList = c := by simp [Value.cells]
    rw [e] at h1
    exact h1
  refine jn0 (fun w' => ∃ g' lv' hp' acc1, g.le g' ∧ Grow Ty.scope_Use 6 lv' acc1.length (useZ acc1) hp' ∧ acc1.length + msrs ks ≤ acc.length + (1 + t.length + nsM ns + msrs ks) ∧
      partsU slots ks fs (Nat.beq k 7 || Nat.beq k 8) true acc1 = partU slots (.mk k t p nn ns ks) fs to acc ∧ Sat g' w' ((b5, box c) :: (wb, wlk sv lv') :: (hp' ++ H))) ?_ ?_
  · rintro w2 ⟨g2', lv2, hp2, acc2, hg2, hgr2, hl2, hpu2, h2⟩
    try simp only [↓E1, ↓E2, ↓E3, Nat.reduceAdd]
    rw [h2.ld0 5 _ (by omega), g5]
    try simp only [↓E1, ↓E2, ↓E3, Nat.reduceAdd]
    have hkv2 := hkv.mono hg2
    have hkr2 := hkr.mono hg2
    refine lp1 (fun m x w' => ∃ i g' lv' hp' acc', x = i64 ((i : Nat) : Int) ∧ m = ks.length - i ∧ i ≤ ks.length ∧ g2'.le g' ∧ acc'.length + msrs (ks.drop i) ≤ acc2.length + msrs ks ∧ Grow Ty.scope_Use 6 lv' acc'.length (useZ acc') hp' ∧
        partsU slots (ks.drop i) fs (Nat.beq k 7 || Nat.beq k 8) (Nat.beq i 0) acc' = partsU slots ks fs (Nat.beq k 7 || Nat.beq k 8) true acc2 ∧ Sat g' w' ((b5, box c) :: (wb, wlk sv lv') :: (hp' ++ H))) ks.length
      ⟨0, g2', lv2, hp2, acc2, rfl, rfl, by omega, .refl g2', Nat.le_refl _, hgr2, rfl, h2⟩ ?_
    rintro m x w5 ⟨i, g5', lv5, hp5, acc5, rfl, rfl, hi5, hg5, hl5, hgr5, hpu, h5⟩
    try simp only [↓E1, ↓E2, ↓E3]
    rw [cnd_dec]
    constructor
    · intro hlt
      obtain ⟨x, hx⟩ : ∃ x, ks[i]? = some x := ⟨_, List.getElem?_eq_getElem (by omega)⟩
      have hxm : x ∈ ks := List.mem_of_getElem? hx
      refine (hkr2.mono hg5).at (hkv2.mono hg5) hx h5 fun c5 hc5 => ?_
      refine h5.al fun b12 w6 h6 => ?_
      refine st_box (c2 := zN) h6 hc5.len rfl hc5.one fun w7 h7 => ?_
      refine h7.ldn0 (c := c5) hc5.len.symm ?_
      have hdr : ks.drop i = x :: ks.drop (i + 1) := by
        rw [List.drop_eq_getElem_cons (List.getElem?_eq_some_iff.1 hx).1, (List.getElem?_eq_some_iff.1 hx).2]
      rw [hdr] at hpu hl5
      simp only [msrs] at hl5
      simp only [partsU] at hpu
      -- the call
      have call : ∀ q : Bool, q = ((Nat.beq k 7 || Nat.beq k 8) && Nat.beq i 0) → Tr P F.scope_walk_part [ptr wb 0, .agg c5.toArray, fv, .bool q] w7 (Vx.back (fun _ w => ∃ m', m' < ks.length - i ∧ ∃ y, [i64 (IntKind.i64.wrap ((i : Int) + 1))] = [y] ∧
          ∃ i g' lv' hp' acc', y = i64 ((i : Nat) : Int) ∧ m' = ks.length - i ∧ i ≤ ks.length ∧ g2'.le g' ∧ acc'.length + msrs (ks.drop i) ≤ acc2.length + msrs ks ∧ Grow Ty.scope_Use 6 lv' acc'.length (useZ acc') hp' ∧
            partsU slots (ks.drop i) fs (Nat.beq k 7 || Nat.beq k 8) (Nat.beq i 0) acc' = partsU slots ks fs (Nat.beq k 7 || Nat.beq k 8) true acc2 ∧ Sat g' w ((b5, box c) :: (wb, wlk sv lv') :: (hp' ++ H))) (fun ch w => R (.panicked ch) w)) := by
        intro q hq
        rw [← hq] at hpu
        have h8 : Sat g5' w7 ((wb, wlk sv lv5) :: (hp5 ++ ((b5, box c) :: H))) :=
          h7.tail.perm (List.perm_append_comm_assoc [_] ((wb, wlk sv lv5) :: hp5) H)
        refine ih x hxm (hsl.mono (hg2.trans hg5)) hsn (hf.mono (hg2.trans hg5)) hc5 hgr5 (by omega) h8 ⟨fun acc6 he g6 lv6 hp6 w8 hg6 hl6 hgr6 h8 => ?_, fun q' he g6 w8 hg6 h8 => ?_⟩
        · rw [he] at hpu
          simp only [] at hpu
          try simp only [↓E1, ↓E2, ↓E3]
          rw [wrap64_succ (by omega)]
          refine ⟨ks.length - (i + 1), by omega, _, rfl, i + 1, g6, lv6, hp6, acc6, rfl, rfl, by omega, hg5.trans hg6, by omega, hgr6, hpu, ?_⟩
          exact h8.perm (List.perm_append_comm_assoc ((wb, wlk sv lv6) :: hp6) [_] H)
        · rw [he] at hpu
          simp only [] at hpu
          try simp only [↓E1, ↓E2, ↓E3]
          exact hR.2 q' (by rw [← hpu2]; exact hpu.symm) g6 w8 (hg2.trans (hg5.trans hg6)) h8.tail
      try simp only [↓E1, ↓E2, ↓E3]
      rw [cnd_dec]
      constructor
      · intro hi0
        have : i = 0 := by omega
        subst this
        try simp only [↓E1, ↓E2, ↓E3, Nat.reduceAdd]
        rw [h7.ld1 0 _ (by omega), g0]
        try simp only [↓E1, ↓E2, ↓E3, Nat.reduceAdd]
        rw [cnd_dec]
        constructor
        · intro h7k
          have : k = 7 := by omega
          subst this
          exact call true rfl
        · intro h7k
          try simp only [↓E1, ↓E2, ↓E3, Nat.reduceAdd]
          rw [h7.ld1 0 _ (by omega), g0]
          try simp only [↓E1, ↓E2, ↓E3, Nat.reduceAdd]
          refine call _ ?_
          have e7 : Nat.beq k 7 = false := by
            cases hb : Nat.beq k 7 with
            | false => rfl
            | true => have := Nat.eq_of_beq_eq_true hb; omega
          rw [e7, Bool.eq_iff_iff]
          simp only [decide_eq_true_eq, Bool.false_or, Bool.and_eq_true]
          constructor
          · intro h; exact ⟨by have : k = 8 := by omega
                               rw [this]; rfl, rfl⟩
          · intro h; have := Nat.eq_of_beq_eq_true h.1; omega
      · intro hi0
        refine call false ?_
        have : Nat.beq i 0 = false := by
          cases hb : Nat.beq i 0 with
          | false => rfl
          | true => have := Nat.eq_of_beq_eq_true hb; omega
        rw [this, Bool.and_false]
    · intro hge5
      have : i = ks.length := by omega
      subst this
      rw [List.drop_length] at hpu
      simp only [partsU] at hpu
      exact hR.1 acc5 (by rw [← hpu2]; exact hpu.symm) g5' lv5 hp5 w5 (hg2.trans hg5) (by omega) hgr5 h5.tail
  · intro k1 hk1
    try simp only [↓E1, ↓E2, ↓E3, Nat.reduceAdd]
    rw [h1.ld0 0 _ (by omega), g0]
    try simp only [↓E1, ↓E2, ↓E3, Nat.reduceAdd]
    have ne : ∀ j : Nat, ¬ ((k : Int) = (j : Int)) → Nat.beq k j = false := by
      intro j h
      cases hb : Nat.beq k j with
      | false => rfl
      | true => exact absurd (by rw [Nat.eq_of_beq_eq_true hb]) h
    -- the use is put
    have hput : ∀ (b8 : Nat) (u : Use) (w' : World) (K : World → Prop), Sat g w' ((b8, ubx u) :: (wb, wlk sv lv) :: (b5, box c) :: (hp ++ H)) →
        (∀ lv' hp' w', Grow Ty.scope_Use 6 lv' (acc.length + 1) (useZ (acc ++ [u])) hp' → Sat g w' ((b5, box c) :: (wb, wlk sv lv') :: (hp' ++ H)) → K w') →
        ld (ptr wb 1) (fun t49 w => ldn 6 (ptr b8 0) (fun t50 w => bs 146 [.int .i64 0, .string ⟨#[]⟩, .int .i64 0, .int .i64 0, .int .i64 0, .bool false] 1 [(0, 6, t50)] (fun t51 w =>
          rk false (ptr wb 1) t49 (ap 146 6 56 [.int .i64 0, .string ⟨#[]⟩, .int .i64 0, .int .i64 0, .int .i64 0, .bool false] t49 t51 (fun t52 w => st 1 (ptr wb 1) t52 K w) w) w) w) w) w' := by
      intro b8 u w' K h hk
      have h' : Sat g w' ((b8, ubx u) :: (wb, wlk sv lv) :: (hp ++ ((b5, box c) :: H))) := h.perm (.cons _ (.cons _ (List.perm_append_comm_assoc [_] hp H)))
      refine put_use hgr (by omega) h' fun lv' hp' w2 hgr' h2 => hk lv' hp' w2 hgr' ?_
      have h3 := Sat.front (A := (wb, wlk sv lv') :: (hp' ++ [(b8, ubx u)])) (x := (b5, box c)) (B := H) (by simpa using h2)
      have h4 : Sat g w2 ((b5, box c) :: ((wb, wlk sv lv') :: hp') ++ (b8, ubx u) :: H) := by simpa using h3
      exact Sat.del h4
    rw [cnd_dec]
    constructor
    · intro hk5
      have : k = 5 := by omega
      subst this
      try simp only [↓E1, ↓E2, ↓E3, Nat.reduceAdd]
      rw [h1.ld0 1 _ (by omega), g1]
      try simp only [↓E1, ↓E2, ↓E3, Nat.reduceAdd]
      refine c_find hsl hsn hf (by omega) h1.swap2 fun w2 h2 => ?_
      have hpu : partU slots (.mk 5 t p nn ns ks) fs to acc = bif (findS slots t fs).1.kind == -1 || ((findS slots t fs).1.kind == 1 && !to) then .error p else .ok (acc ++ [{ (findS slots t fs).1 with pos := p }]) := by simp only [partU]; rfl
      rw [hpu] at hR
      generalize (findS slots t fs).1 = u at hR
      try simp only [↓E1, ↓E2, ↓E3]
      refine h2.al fun b8 w3 h3 => ?_
      refine st_all (c := useC u) (c2 := useC use0) h3 rfl rfl rfl fun w4 h4 => ?_
      have h4 : Sat g w4 ((b8, ubx u) :: (wb, wlk sv lv) :: (b5, box c) :: (hp ++ H)) := h4
      refine jn0 (fun w' => (u.kind == -1 || (u.kind == 1 && !to)) = false ∧ Sat g w' ((b8, ubx u) :: (wb, wlk sv lv) :: (b5, box c) :: (hp ++ H))) ?_ ?_
      · rintro w5 ⟨hb, h5⟩
        try simp only [↓E1, ↓E2, ↓E3, Nat.reduceAdd]
        rw [h5.ld2 2 _ (by omega), g2]
        refine st_one h5 rfl rfl (by simp [useC]) fun w6 h6 => ?_
        have h6 : Sat g w6 ((b8, ubx { u with pos := p }) :: (wb, wlk sv lv) :: (b5, box c) :: (hp ++ H)) := h6
        try simp only [↓E1, ↓E2, ↓E3, Nat.reduceAdd]
        refine hput b8 _ w6.drew _ h6.drew fun lv' hp' w7 hgr' h7 => ?_
        exact hR.1 _ (by rw [hb]; rfl) g lv' hp' w7 (.refl g) (by simp; omega) (by simpa using hgr') h7.tail
      · intro k3 hk3
        refine jn1 (fun x w' => x = .bool (u.kind == -1 || (u.kind == 1 && !to)) ∧ w' = w4) ?_ ?_
        · rintro x w5 ⟨rfl, rfl⟩
          rw [cnd_eq]
          constructor
          · intro hb
            try simp only [↓E1, ↓E2, ↓E3, Nat.reduceAdd]
            rw [h4.ld2 2 _ (by omega), g2]
            refine bdI (cs := [i64 (p : Int)]) rfl ?_
            try simp only [↓E2]
            exact hR.2 p (by rw [hb]; rfl) g _ (.refl g) h4.tail.tail.tail.drop
          · intro hb
            try simp only [↓E3]
            exact hk3 _ ⟨hb, h4⟩
        · intro k4 hk4
          try simp only [↓E1, ↓E2, ↓E3, Nat.reduceAdd]
          rw [h4.ld0 2 _ (by simp [useC])]
          have e2 : (useC u).getD 2 undef = i64 u.kind := rfl
          rw [e2]
          try simp only [↓E1, ↓E2, ↓E3, Nat.reduceAdd]
          rw [cnd_dec]
          constructor
          · intro h
            refine hk4 _ _ ⟨?_, rfl⟩
            rw [h]; rfl
          · intro h
            have e0 : (u.kind == -1) = false := beq_eq_false_iff_ne.2 h
            rw [h4.ld0 2 _ (by simp [useC]), e2]
            try simp only [↓E1, ↓E2, ↓E3, Nat.reduceAdd]
            rw [cnd_dec]
            constructor
            · intro h1'
              refine hk4 _ _ ⟨?_, rfl⟩
              rw [e0, h1']; rfl
            · intro h1'
              have e1 : (u.kind == 1) = false := beq_eq_false_iff_ne.2 h1'
              refine hk4 _ _ ⟨?_, rfl⟩
              rw [e0, e1]; rfl
    intro hk5
    have n5 := ne 5 hk5
    try simp only [↓E1, ↓E2, ↓E3, Nat.reduceAdd]
    rw [cnd_dec]
    constructor
    · intro hk6
      have : k = 6 := by omega
      subst this
      try simp only [↓E1, ↓E2, ↓E3, Nat.reduceAdd]
      rw [h1.ld0 1 _ (by omega), g1]
      try simp only [↓E1, ↓E2, ↓E3, Nat.reduceAdd]
      refine c_find hsl hsn hf (by omega) h1.swap2 fun w2 h2 => ?_
      have hpu : partU slots (.mk 6 t p nn ns ks) fs to acc = bif (findS slots t fs).2 || ((findS slots t fs).1.kind != 3 && (findS slots t fs).1.kind != 4) then .error p else partsU slots ks fs false true (acc ++ [{ (findS slots t fs).1 with pos := p, write := true }]) := by simp only [partU]; rfl
      rw [hpu] at hR hk1
      generalize (findS slots t fs).1 = u at hR hk1
      generalize (findS slots t fs).2 = ar at hR hk1
      try simp only [↓E1, ↓E2, ↓E3]
      refine h2.al fun b8 w3 h3 => ?_
      refine st_all (c := useC u) (c2 := useC use0) h3 rfl rfl rfl fun w4 h4 => ?_
      have h4 : Sat g w4 ((b8, ubx u) :: (wb, wlk sv lv) :: (b5, box c) :: (hp ++ H)) := h4
      refine jn0 (fun w' => (ar || (u.kind != 3 && u.kind != 4)) = false ∧ Sat g w' ((b8, ubx u) :: (wb, wlk sv lv) :: (b5, box c) :: (hp ++ H))) ?_ ?_
      · rintro w5 ⟨hb, h5⟩
        try simp only [↓E1, ↓E2, ↓E3, Nat.reduceAdd]
        rw [h5.ld2 2 _ (by omega), g2]
        refine st_one h5 rfl rfl (by simp [useC]) fun w6 h6 => ?_
        refine st_one h6 rfl rfl (by simp [useC]) fun w7 h7 => ?_
        have h7 : Sat g w7 ((b8, ubx { u with pos := p, write := true }) :: (wb, wlk sv lv) :: (b5, box c) :: (hp ++ H)) := h7
        try simp only [↓E1, ↓E2, ↓E3, Nat.reduceAdd]
        refine hput b8 _ w7.drew _ h7.drew fun lv' hp' w8 hgr' h8 => ?_
        refine hk1 _ ⟨g, lv', hp', acc ++ [{ u with pos := p, write := true }], .refl g, by simpa using hgr', by simp; omega, ?_, h8⟩
        rw [hb]
        rfl
      · intro k3 hk3
        refine jn1 (fun x w' => x = .bool (ar || (u.kind != 3 && u.kind != 4)) ∧ w' = w4) ?_ ?_
        · rintro x w5 ⟨rfl, rfl⟩
          rw [cnd_eq]
          constructor
          · intro hb
            try simp only [↓E1, ↓E2, ↓E3, Nat.reduceAdd]
            rw [h4.ld2 2 _ (by omega), g2]
            refine bdI (cs := [i64 (p : Int)]) rfl ?_
            try simp only [↓E2]
            exact hR.2 p (by rw [hb]; rfl) g _ (.refl g) h4.tail.tail.tail.drop
          · intro hb
            try simp only [↓E3]
            exact hk3 _ ⟨hb, h4⟩
        · intro k4 hk4
          rw [cnd_eq]
          constructor
          · rintro rfl
            try simp only [↓E1, ↓E2, ↓E3, Nat.reduceAdd]
            exact hk4 _ _ ⟨rfl, rfl⟩
          rintro rfl
          try simp only [↓E1, ↓E2, ↓E3, Nat.reduceAdd]
          rw [h4.ld0 2 _ (by simp [useC])]
          have e2 : (useC u).getD 2 undef = i64 u.kind := rfl
          rw [e2]
          try simp only [↓E1, ↓E2, ↓E3, Nat.reduceAdd]
          rw [cnd_ndec]
          constructor
          · intro h
            have e0 : (u.kind != 3) = true := by simpa using h
            rw [h4.ld0 2 _ (by simp [useC]), e2]
            try simp only [↓E1, ↓E2, ↓E3, Nat.reduceAdd]
            refine hk4 _ _ ⟨?_, rfl⟩
            rw [e0, Bool.false_or, Bool.true_and]
            congr 1
          · intro h
            have e0 : (u.kind != 3) = false := by rw [h]; rfl
            refine hk4 _ _ ⟨?_, rfl⟩
            rw [e0]; rfl
    intro hk6
    have n6 := ne 6 hk6
    try simp only [↓E1, ↓E2, ↓E3, Nat.reduceAdd]
    rw [cnd_dec]
    constructor
    · intro hk10
      have : k = 10 := by omega
      subst this
      try simp only [↓E1, ↓E2, ↓E3, Nat.reduceAdd]
      refine h1.ldn0 (c := c) hclen.symm ?_
      have hpu : partU slots (.mk 10 t p nn ns ks) fs to acc = unitU slots (.mk 10 t p nn ns ks) fs acc := by simp only [partU, unitU]; rfl
      rw [hpu] at hR
      try simp only [↓E1, ↓E2, ↓E3, Nat.reduceAdd]
      have h2 : Sat g w1 ((wb, wlk sv lv) :: (hp ++ ((b5, box c) :: H))) := h1.perm (List.perm_append_comm_assoc [_] ((wb, wlk sv lv) :: hp) H)
      refine hcu hsl hsn hf hn0 hgr hb0 h2 ⟨fun acc' he g' lv' hp' w' hg' hl' hgr' h' => ?_, fun q he g' w' hg' h' => ?_⟩
      · try simp only [↓E1, ↓E2, ↓E3, Nat.reduceAdd]
        simp only [msr] at hl'
        refine hR.1 acc' he g' lv' hp' w' hg' hl' hgr' ?_
        exact (Sat.del (A := (wb, wlk sv lv') :: hp') h')
      · try simp only [↓E1, ↓E2, ↓E3, Nat.reduceAdd]
        exact hR.2 q he g' w' hg' h'.tail
    intro hk10
    have n10 := ne 10 hk10
    try simp only [↓E1, ↓E2, ↓E3, Nat.reduceAdd]
    refine hk1 _ ⟨g, lv, hp, acc, .refl g, hgr, by omega, ?_, h1⟩
    simp only [partU, n5, n6, n10, cond_false]
end Go.Vx
namespace Go.Vx
open Go Go.Proofs
variable {R : Ending → World → Prop} {g : G} {w : World} {H hp T : Hp}

theorem c_Resolve_1_nil {a0 a1 a2 : Value} {R : Ending → FrameMode → World → Prop} (hR : R (.returned (.tuple #[])) .returning w) : CallsD P F.scope_Resolve_1 #[a0, a1, a2] .returning w R := by
  apply t_scope_Resolve_1
  unfold d_scope_Resolve_1
  refine ⟨.bool true, fun w' => run_eq_nil_nil Tryz.underlying20 _ _ w', ?_⟩
  simp only [↓E3]
  exact hR

theorem c_Resolve_1_stop {b4 b5 b6 : Nat} {x y z : Value} {q : Nat} {R : Ending → FrameMode → World → Prop} (hS : Sat g w ((b4, .cells [z].toArray 73) :: (b5, .cells [x].toArray 3) :: (b6, .cells [y].toArray 26) :: H))
    (hR : ∀ w', Sat g w' ((b4, .cells [.slice none 0 0].toArray 73) :: (b5, .cells [i64 (q : Int)].toArray 3) :: (b6, .cells [i64 21].toArray 26) :: H) → R (.returned (.tuple #[])) (.panicking [{ v := .iface Ty.scope_stop (.agg #[i64 (q : Int)]), recovered := true }]) w') :
    CallsD P F.scope_Resolve_1 #[ptr b4 0, ptr b5 0, ptr b6 0] (.panicking (stopS q)) w R := by
  apply t_scope_Resolve_1
  unfold d_scope_Resolve_1
  have e1 : (recV (.panicking (stopS q))).1 = .iface Ty.scope_stop (.agg #[i64 (q : Int)]) := rfl
  have e2 : (recV (.panicking (stopS q))).2 = .panicking [{ v := .iface Ty.scope_stop (.agg #[i64 (q : Int)]), recovered := true }] := rfl
  rw [e1, e2]
  refine ⟨.bool false, fun w' => run_eq_held_nil Tryz.underlying20 _ _ w', ?_⟩
  simp only [↓E3]
  refine ⟨_, fun w' => run_assert_struct Tryz.underlying104 w', ?_⟩
  simp only [↓E1, ↓E2, ↓E3]
  refine hS.al fun b w1 h1 => ?_
  refine st_all (c := [i64 (q : Int)]) (c2 := [i64 0]) h1 rfl rfl rfl fun w2 h2 => ?_
  have h3 := h2.drew
  try simp only [↓E1, ↓E2, ↓E3, Nat.reduceAdd]
  rw [h3.ld0 0 _ (by simp)]
  try simp only [↓E1, ↓E2, ↓E3, Nat.reduceAdd]
  refine st_one h3.swap2 rfl rfl (by simp) fun w4 h4 => ?_
  have h4 := h4.swap2
  refine h4.rk (b := b) (t := 104) (fr := (0, 0)) (c := [i64 (q : Int)]) (by simp) rfl ?_
  have h5 := Sat.front (A := [(b, _), (b4, _)]) h4
  refine st_one h5 rfl rfl (by simp) fun w6 h6 => ?_
  have h7 := Sat.front (A := [(b5, _), (b, _), (b4, _)]) h6
  refine st_one h7 rfl rfl (by simp) fun w8 h8 => ?_
  have h9 := Sat.del (A := [(b6, _), (b5, _)]) h8
  have h10 := Sat.front (A := [(b6, _), (b5, _)]) h9
  exact hR w8 (h10.perm (.cons _ (List.Perm.swap _ _ _)))

theorem resolve_unit (slots : List (List UInt8)) (n : Node) : resolveS slots n = unitU slots n [] [] := by cases n; rfl

theorem c_Resolve {c : List Value} {n : Node} {sv : Value} {slots : List (List UInt8)} (hn : NodeR g c n) (hsl : SS g sv slots) (hsn : slots.length ≤ 4611686018427387904) (hm : msr n ≤ 1073741824) (hS : Sat g w H)
    (hok : ∀ l g' lv w', resolveS slots n = .ok l → g.le g' → Sl g' 6 lv l.length (useZ l) → l.length ≤ msr n → Sat g' w' H → R (.returned (.tuple #[lv, i64 0, i64 0])) w')
    (herr : ∀ p g' w', resolveS slots n = .error p → g.le g' → Sat g' w' H → R (.returned (.tuple #[.slice none 0 0, i64 ((p : Nat) : Int), i64 21])) w') : Tr P F.scope_Resolve [.agg c.toArray, sv] w R := by
  rw [resolve_unit] at hok herr
  apply t_scope_Resolve
  unfold d_scope_Resolve
  have hcl := hn.len
  have e : (Value.agg c.toArray).cells.toList = c := by simp [Value.cells]
  rw [e]
  refine hS.al fun b2 w1 h1 => h1.al fun b4 w2 h2 => h2.al fun b5 w3 h3 => h3.al fun b6 w4 h4 => ?_
  have h4 : Sat g w4 ((b6, .cells [i64 0].toArray 26) :: (b5, .cells [i64 0].toArray 3) :: (b4, .cells [.slice none 0 0].toArray 73) :: (b2, box c) :: H) := h4
  refine ⟨_, _, _, rfl, ?_⟩
  obtain ⟨sa, sc, rfl, _, _, _⟩ := id hsl
  refine bdI (cs := [.slice sa slots.length sc, .slice none 0 0]) rfl ?_
  refine h4.al fun b11 w5 h5 => ?_
  have h5 : Sat g w5 ((b11, wlk (.slice sa slots.length sc) (.slice none 0 0)) :: (b6, .cells [i64 0].toArray 26) :: (b5, .cells [i64 0].toArray 3) :: (b4, .cells [.slice none 0 0].toArray 73) :: (b2, box c) :: H) := h5
  refine h5.ldnH (b := b2) (c := c) (t := Ty.tree_Node) (fr := (0, 0)) (by simp) 6 0 (by omega) ?_
  rw [List.drop_zero, List.take_of_length_le (by omega)]
  simp only [↓E2, List.append_nil, List.nil_append]
  have settleR : ∀ (q : Nat) (g2 : G) (w' : World), unitU slots n [] [] = .error q → g.le g2 → Sat g2 w' ((b6, .cells [i64 0].toArray 26) :: (b5, .cells [i64 0].toArray 3) :: (b4, .cells [.slice none 0 0].toArray 73) :: (b2, box c) :: H) →
      dl P { target := .fn (.func F.scope_Resolve_1) #[ptr b4 0, ptr b5 0, ptr b6 0], args := #[] ++ ([] : List Value).toArray } (.panicking (stopS q)) (fun w => ld (ptr b4 0) (fun r0 w => ld (ptr b5 0) (fun r1 w => ld (ptr b6 0) (fun r2 w => R (.returned (.tuple #[r0, r1, r2])) w) w) w) w) (fun ch w => R (.panicked ch) w) w' := by
    intro q g2 w' he hg h
    refine ⟨_, _, rfl, n_scope_Resolve_1, ?_⟩
    have h' : Sat g2 w' ((b4, .cells [.slice none 0 0].toArray 73) :: (b5, .cells [i64 0].toArray 3) :: (b6, .cells [i64 0].toArray 26) :: (b2, box c) :: H) :=
      (Sat.front (A := [(b6, _), (b5, _)]) h).perm (.cons _ (List.Perm.swap _ _ _))
    refine c_Resolve_1_stop h' fun w13 h13 => ?_
    simp only [settle_rec, backD]
    rw [h13.ld0 0 _ (by simp), h13.ld1 0 _ (by simp), h13.ld2 0 _ (by simp)]
    exact herr q g2 w13 he hg (h13.tail.tail.tail.tail)
  have hun : UnitU n := by cases n; exact c_unitU fun x _ => partU_ok x
  refine hun (hp := []) (acc := []) (fs := []) hsl hsn .nil hn .nil (by simp; omega) h5 ⟨fun l he g' lv' hp' w' hg' hl' hgr' h' => ?_, fun q he g' w' hg' h' => ?_⟩
  · try simp only [↓E1, ↓E2, ↓E3, Nat.reduceAdd]
    rw [h'.ld0 1 _ (by simp)]
    try simp only [↓E1, ↓E2, ↓E3, Nat.reduceAdd]
    have h6 := h'.tail
    obtain ⟨g2, hg2, h7, hSl⟩ := hgr'.freeze h6
    have hv : lv'.cells = #[lv'] ∧ one lv' = true := by obtain ⟨a, c, rfl⟩ := hgr'.slice; exact ⟨rfl, rfl⟩
    have h8 := Sat.front (A := [(b6, _), (b5, _)]) h7
    refine st_one h8 hv.1 hv.2 (by simp) fun w8 h8 => ?_
    have h9 := Sat.front (A := [(b4, _), (b6, _)]) h8
    refine st_one h9 rfl rfl (by simp) fun w9 h9 => ?_
    have h10 := Sat.front (A := [(b5, _), (b4, _)]) h9
    refine st_one h10 rfl rfl (by simp) fun w10 h10 => ?_
    refine ⟨_, _, rfl, n_scope_Resolve_1, ?_⟩
    refine c_Resolve_1_nil ?_
    simp only [settle_ret, backD]
    rw [h10.ld2 0 _ (by simp), h10.ld1 0 _ (by simp), h10.ld0 0 _ (by simp)]
    simp only [List.length_nil, Nat.zero_add] at hl'
    exact hok l g2 lv' w10 he (hg'.trans hg2) hSl hl' (h10.tail.tail.tail.tail)
  · try simp only [↓E1, ↓E2, ↓E3, Nat.reduceAdd]
    exact settleR q g' w' he hg' h'
end Go.Vx
namespace Go.Vx

/-! ### Literals as texts -/
def quoteS (t : List UInt8) : List UInt8 := 39 :: (t.flatMap fun c => bif c == 39 then [39, 39] else [c]) ++ [39]
def plainSymS (t : List UInt8) : Bool := bif t.isEmpty || t.headD 0 == 39 then false else (symbolS t 0).1.2 && (symbolS t 0).1.1 == t
mutual
/-- A literal's text. -/
def litS : Node → List UInt8
  | .mk k t _ _ _ ks => bif Nat.beq k 2 then quoteS t else bif Nat.beq k 3 then 35 :: (bif plainSymS t then t else quoteS t) else bif Nat.beq k 4 then 35 :: 40 :: (litsS ks true ++ [41]) else t
def litsS : List Node → Bool → List UInt8
  | [], _ => []
  | k :: ks, first => (bif first then [] else [32]) ++ (litS k ++ litsS ks false)
end

/-! ### Steps -/
structure Ins where
  op : Nat
  a : Nat
  b : Nat
  deriving DecidableEq
structure CU where
  args : Nat
  names : Nat
  ins : List Ins
structure MK where
  units : List CU
  lits : List (List UInt8)
  names : List (List UInt8)
  sels : List (List UInt8)
  uses : List Use

def useO : Use := ⟨0, [], 0, 0, 0, false⟩
def onceS (l : List (List UInt8)) (t : List UInt8) : List (List UInt8) × Nat := match idxT t l 0 with
  | some k => (l, k)
  | none => (l ++ [t], l.length)
def modU : List CU → Nat → Ins → List CU
  | [], _, _ => []
  | x :: l, 0, i => ⟨x.args, x.names, x.ins ++ [i]⟩ :: l
  | x :: l, u + 1, i => x :: modU l u i
def addI (m : MK) (u : Nat) (i : Ins) : MK := { m with units := modU m.units u i }
def popU (m : MK) : MK := { m with uses := m.uses.tail }
def useH (m : MK) : Use := m.uses.headD useO
def nameC (u : Nat) (m0 : MK) : MK :=
  let x := useH m0
  let m := popU m0
  bif x.kind == 2 then addI m u ⟨7, x.index, 0⟩
  else bif x.kind == 3 then addI m u ⟨1, x.depth, x.index⟩
  else bif x.kind == 4 then addI m u ⟨3, x.index, 0⟩
  else bif x.kind == 5 then addI { m with names := (onceS m.names x.name).1 } u ⟨5, (onceS m.names x.name).2, 0⟩
  else addI m u ⟨6, 0, 0⟩
def sendC (u : Nat) (sup : Bool) (sel : List UInt8) (nargs : Nat) (m : MK) : MK :=
  addI { m with sels := (onceS m.sels sel).1 } u ⟨bif sup then 9 else 8, (onceS m.sels sel).2, nargs⟩
def isSuper (n : Node) : Bool := Nat.beq n.kind 5 && n.text == superT
def superH : List Node → Bool
  | [] => false
  | k :: _ => isSuper k
/-- A unit's steps: how its statements' are made is given. -/
def unitOf (k : Nat) (t : List UInt8) (n names kids : Nat) (st : Nat → MK → MK × Bool) (m : MK) : MK :=
  let u := m.units.length
  let r := st u { m with units := m.units ++ [⟨n, names, []⟩] }
  bif r.2 then r.1
  else bif Nat.beq k 12 && !t.isEmpty then addI (addI (bif Nat.beq kids 0 then r.1 else addI r.1 u ⟨12, 0, 0⟩) u ⟨6, 0, 0⟩) u ⟨14, 0, 0⟩
  else addI (bif Nat.beq kids 0 then addI r.1 u ⟨7, 0, 0⟩ else r.1) u ⟨13, 0, 0⟩
mutual
def partC : Node → Nat → MK → MK
  | .mk k t p n ns ks, u, m =>
    bif Nat.beq k 1 || (Nat.beq k 2 || (Nat.beq k 3 || Nat.beq k 4)) then
      addI { m with lits := (onceS m.lits (litS (.mk k t p n ns ks))).1 } u ⟨0, (onceS m.lits (litS (.mk k t p n ns ks))).2, 0⟩
    else bif Nat.beq k 5 then nameC u m
    else bif Nat.beq k 6 then
      let x := useH m
      let m1 := headC ks u (popU m)
      bif x.kind == 3 then addI m1 u ⟨2, x.depth, x.index⟩ else addI m1 u ⟨4, x.index, 0⟩
    else bif Nat.beq k 7 then sendC u (superH ks) t (ks.length - 1) (partsC ks u m)
    else bif Nat.beq k 8 then cascT ks u m
    else bif Nat.beq k 10 then unitOf k t n ns.length ks.length (fun u' m' => stmtsC ks u' true m') (addI m u ⟨10, m.units.length, 0⟩)
    else m
def headC : List Node → Nat → MK → MK
  | [], _, m => m
  | k :: _, u, m => partC k u m
def partsC : List Node → Nat → MK → MK
  | [], _, m => m
  | k :: ks, u, m => partsC ks u (partC k u m)
def msgC : Node → Nat → Bool → MK → MK
  | .mk _ t _ _ _ ks, u, sup, m => sendC u sup t ks.length (partsC ks u m)
def cascC : List Node → Nat → Bool → MK → MK
  | [], _, _, m => m
  | k :: ks, u, sup, m => bif ks.isEmpty then msgC k u sup m else cascC ks u sup (addI (msgC k u sup (addI m u ⟨11, 0, 0⟩)) u ⟨12, 0, 0⟩)
def cascT : List Node → Nat → MK → MK
  | [], _, m => m
  | r :: ms, u, m => cascC ms u (isSuper r) (partC r u m)
def retC : Node → Nat → MK → MK
  | .mk _ _ _ _ _ ks, u, m => headC ks u m
def stmtsC : List Node → Nat → Bool → MK → MK × Bool
  | [], _, _, m => (m, false)
  | k :: ks, u, first, m =>
    let m1 := bif first then m else addI m u ⟨12, 0, 0⟩
    bif Nat.beq k.kind 11 then (addI (retC k u m1) u ⟨14, 0, 0⟩, true) else stmtsC ks u false (partC k u m1)
end
def unitC : Node → MK → MK
  | .mk k t _ n ns ks, m => unitOf k t n ns.length ks.length (fun u' m' => stmtsC ks u' true m') m
def makeS (slots : List (List UInt8)) (n : Node) : Except Nat MK := match resolveS slots n with
  | .error p => .error p
  | .ok l => .ok (unitC n ⟨[], [], [], [], l⟩)
/-- A source as steps: its pattern, the steps. -/
def codeS (slots : List (List UInt8)) (r : Except (Nat × Nat) Node) : Except (Nat × Nat) (List UInt8 × MK) := match r with
  | .error x => .error x
  | .ok n => match makeS slots n with
    | .error p => .error (p, 21)
    | .ok m => .ok (n.text, m)
def compileS (slots : List (List UInt8)) (s : List UInt8) : Except (Nat × Nat) (List UInt8 × MK) := codeS slots (parseS s)
end Go.Vx
namespace Go.Vx
open Go Go.Proofs
variable {R : Ending → World → Prop} {g : G} {w : World} {H hp T : Hp}

theorem c_count {s : List UInt8} {c : UInt8} (hR : R (.returned (i64 ((s.count c : Nat) : Int))) w) : Tr P F.internal_bytealg_CountString [str s, byt c] w R := by
  refine tr_extern (e := Extern.BytealgCount.count) Tryz.func204 (by kernel_rfl) (by kernel_rfl) (by kernel_rfl) (by kernel_rfl) (Lib.run_countString _ _ _) ?_
  have e : ((c.toNat : Int)).toNat.toUInt8 = c := by simp
  rw [e]
  exact hR

theorem c_index1 {s : List UInt8} {c : UInt8} (hR : R (.returned (i64 (idxI (idx c s)))) w) : Tr P F.strings_Index [str s, str [c]] w R := by
  apply t_strings_Index
  unfold d_strings_Index
  try simp only [↓E2]
  apply t_internal_stringslite_Index
  unfold d_internal_stringslite_Index
  try simp only [↓E2]
  refine jnI ?_
  refine jn1 (fun x w' => x = .bool (decide (s = [c])) ∧ w' = w) ?_ ?_
  · rintro x w' ⟨rfl, rfl⟩
    rw [cnd_dec]
    constructor
    · rintro rfl
      have e : idxI (idx c [c]) = 0 := by simp [idx, idxGo, idxI]
      rw [e] at hR
      exact hR
    · intro _
      have e1 : (([c] : List UInt8).length : Int) = 1 := rfl
      rw [e1]
      try simp only [↓E1, ↓E2, ↓E3, decide_true]
      refine ⟨by omega, c, rfl, ?_⟩
      try simp only [↓E1, ↓E2, ↓E3]
      refine c_liteIndexByte ?_
      try simp only [↓E3]
      exact hR
  · intro k7 hk7
    have e1 : (([c] : List UInt8).length : Int) = 1 := rfl
    rw [e1]
    have e0 : decide ((1 : Int) = 0) = false := rfl
    try simp only [↓E1, ↓E2, ↓E3, e0]
    refine hk7 _ _ ⟨?_, rfl⟩
    congr 1
    rw [Bool.eq_iff_iff]
    simp only [decide_eq_true_eq]
    exact ⟨fun h => h.symm, fun h => h.symm⟩

theorem idxGo_split {c : UInt8} {l : List UInt8} {i k : Nat} (h : idxGo c l i = some k) : ∃ pre post, l = pre ++ c :: post ∧ k = i + pre.length ∧ c ∉ pre := by
  induction l generalizing i with
  | nil => simp [idxGo] at h
  | cons x l ih =>
    simp only [idxGo] at h
    cases hb : x == c with
    | true =>
      rw [hb] at h
      simp at h
      have hx : x = c := by simpa using hb
      subst hx h
      exact ⟨[], l, rfl, rfl, by simp⟩
    | false =>
      rw [hb] at h
      obtain ⟨pre, post, h1, h2, h3⟩ := ih h
      have hx : x ≠ c := by simpa using hb
      exact ⟨x :: pre, post, by rw [h1]; rfl, by simp; omega, by simp [h3, Ne.symm hx]⟩
theorem idxGo_no {c : UInt8} {l : List UInt8} {i : Nat} (h : idxGo c l i = none) : c ∉ l := by
  induction l generalizing i with
  | nil => simp
  | cons x l ih =>
    simp only [idxGo] at h
    cases hb : x == c with
    | true => rw [hb] at h; simp at h
    | false =>
      rw [hb] at h
      have hx : x ≠ c := by simpa using hb
      simp [ih h, Ne.symm hx]

/-- Quotes twice. -/
def qS (t : List UInt8) : List UInt8 := t.flatMap fun c => bif c == 39 then [39, 39] else [c]
theorem qS_app (a b : List UInt8) : qS (a ++ b) = qS a ++ qS b := by simp [qS]
theorem qS_no {l : List UInt8} (h : (39 : UInt8) ∉ l) : qS l = l := by
  induction l with
  | nil => rfl
  | cons x l ih =>
    simp only [List.mem_cons, not_or] at h
    have hx : (x == 39) = false := beq_eq_false_iff_ne.2 (Ne.symm h.1)
    have := ih h.2
    simp only [qS, List.flatMap_cons, hx, cond_false]
    simp only [qS] at this
    rw [this]
    rfl
theorem qS_len (l : List UInt8) : (qS l).length ≤ 2 * l.length := by
  induction l with
  | nil => exact Nat.le_refl _
  | cons x l ih =>
    have e : qS (x :: l) = (bif x == 39 then [39, 39] else [x]) ++ qS l := rfl
    rw [e, List.length_append, List.length_cons]
    cases x == 39
    · simp only [cond_false, List.length_cons, List.length_nil]; omega
    · simp only [cond_true, List.length_cons, List.length_nil]; omega

theorem run_copy0 {w : World} {nb cap : Nat} : (Builtin.copy_ #[176, 176] 3 #[.slice (some ⟨nb, 0, none⟩) 0 cap, .slice none 0 0]).run P w = .ok (.int .i64 0) w := by
  obtain ⟨i, hi, hs⟩ : ∃ i, (P.info? 5) = some i ∧ True := ⟨_, (ty5_ok.info).choose_spec.1, trivial⟩
  simp [Builtin.copy_, run_underlying Tryz.underlying176, Builtin.lenOf, Builtin.firstCells, sizeOf, typeInfo, program, hi, Sem.run, storeCells, goInt]

theorem c_grow0 {b n : Nat} (hn : 0 < n) (hn2 : n ≤ 1073741824) (hS : Sat g w ((b, bld (.pointer none) (.slice none 0 0)) :: H))
    (hR : ∀ v' hp' w', Grow Ty.uint8 1 v' 0 [] hp' → Sat g w' ((b, bld (ptr b 0) v') :: (hp' ++ H)) → R (.returned (.tuple #[])) w') : Tr P F.strings_Builder_Grow [ptr b 0, i64 (n : Int)] w R := by
  apply t_strings_Builder_Grow
  unfold d_strings_Builder_Grow
  refine c_copyCheck hS (.inl rfl) fun w1 h1 => ?_
  try simp only [↓E1, ↓E2, ↓E3, Nat.reduceAdd]
  refine jn0 (fun w' => Sat g w' ((b, bld (ptr b 0) (.slice none 0 0)) :: H)) ?_ ?_
  · intro w2 h2
    have h3 := h2.drew
    try simp only [↓E1, ↓E2, ↓E3, Nat.reduceAdd]
    rw [h3.ld0 1 _ (by simp)]
    try simp only [↓E1, ↓E2, ↓E3, Nat.reduceAdd]
    rw [h3.ld0 1 _ (by simp)]
    try simp only [↓E1, ↓E2, ↓E3, Nat.reduceAdd]
    have e0 : IntKind.i64.wrap (((0 : Nat) : Int) - ((0 : Nat) : Int)) = 0 := by rw [wrap64_of (by omega) (by omega)]; rfl
    rw [e0, cnd_dec]
    constructor
    rotate_left
    · intro h; omega
    intro _
    apply t_strings_Builder_grow
    unfold d_strings_Builder_grow
    have h4 := h3.drew
    try simp only [↓E1, ↓E2, ↓E3, Nat.reduceAdd]
    rw [h4.ld0 1 _ (by simp)]
    try simp only [↓E1, ↓E2, ↓E3, Nat.reduceAdd]
    rw [h4.ld0 1 _ (by simp)]
    try simp only [↓E1, ↓E2, ↓E3, Nat.reduceAdd]
    have e1 : IntKind.i64.wrap (IntKind.i64.wrap (2 * ((0 : Nat) : Int)) + (n : Int)) = (n : Int) := by
      rw [wrap64_of (n := 2 * ((0 : Nat) : Int)) (by omega) (by omega), wrap64_of (by omega) (by omega)]
      omega
    rw [e1]
    obtain ⟨cs, hrun, hle, _⟩ := Lib.run_makeNoZero (P := P) (w := w2.drew.drew) #[3] 176 5 Tryz.underlying176 n (by omega)
    refine tr_extern (e := Extern.BytealgMakeNoZero.makeNoZero #[3] #[176]) Tryz.func207 (by kernel_rfl) (by kernel_rfl) (by kernel_rfl) (by kernel_rfl) hrun ?_
    have h5 : Sat g (w2.drew.drew.drew.drew.alloc (.cells cs 5)) ((w2.drew.drew.heap.size, .cells cs.toList.toArray 5) :: (b, bld (ptr b 0) (.slice none 0 0)) :: H) := by
      have := h4.new (w' := w2.drew.drew.drew.drew.alloc (.cells cs 5)) (o := .cells cs 5) rfl rfl rfl rfl
      simpa using this
    generalize w2.drew.drew.drew.drew.alloc (.cells cs 5) = w6 at h5
    generalize w2.drew.drew.heap.size = nb at h5
    try simp only [↓E1, ↓E2, ↓E3, Nat.reduceAdd]
    refine h5.rk (b := b) (t := Ty.strings_Builder) (fr := (0, 0)) (c := [ptr b 0, .slice none 0 0]) (by simp) rfl ?_
    refine slL_hi _ _ _ _ _ _ (by omega) (by omega) ?_
    try simp only [↓E1, ↓E2, ↓E3, Nat.reduceAdd]
    rw [h5.ld1 1 _ (by simp)]
    try simp only [↓E1, ↓E2, ↓E3, Nat.reduceAdd]
    refine ⟨_, _, run_copy0, ?_⟩
    try simp only [↓E1, ↓E2, ↓E3, Nat.reduceAdd]
    refine st_one h5.swap2 rfl rfl (by simp) fun w7 h7 => ?_
    refine hR _ [(nb, .cells ([] ++ cs.toList).toArray 5)] w7 (.some (b := nb) (n := 0) (c := cs.size) (cs := []) (ex := cs.toList) rfl (by simp) (Nat.zero_le _) (by omega)) ?_
    exact h7
  · intro k1 hk1
    rw [cnd_dec]
    constructor
    · intro h; omega
    · intro _
      try simp only [↓E3]
      exact hk1 _ h1

theorem c_replaceAll {s : List UInt8} (hs : s.length ≤ 268435456) (hS : Sat g w H) (hR : ∀ w', Sat g w' H → R (.returned (str (qS s))) w') : Tr P F.strings_ReplaceAll [str s, str [39], str [39, 39]] w R := by
  apply t_strings_ReplaceAll
  unfold d_strings_ReplaceAll
  try simp only [↓E2]
  apply t_strings_Replace
  unfold d_strings_Replace
  refine jn1 (fun x w' => w' = w) ?_ ?_
  rotate_left
  · intro k1 hk1
    try simp only [↓E1, ↓E2, ↓E3]
    rw [cnd_dec]
    constructor
    · intro h; simp at h
    intro _
    rw [cnd_dec]
    constructor
    · intro h; omega
    intro _
    exact hk1 _ _ rfl
  rintro x8 w' rfl
  refine jn2 (fun x y w'' => w'' = w' ∧ x = i64 ((s.count 39 : Nat) : Int) ∧ 0 < s.count 39) ?_ ?_
  rotate_left
  · intro k2 hk2
    try simp only [↓E2]
    apply t_strings_Count
    unfold d_strings_Count
    have e1 : (([39] : List UInt8).length : Int) = 1 := rfl
    have e0 : decide ((1 : Int) = 0) = false := rfl
    try simp only [↓E1, ↓E2, ↓E3, e1, e0, decide_true]
    refine ⟨by omega, 39, rfl, ?_⟩
    try simp only [↓E2]
    refine c_count (c := 39) ?_
    try simp only [↓E1, ↓E2, ↓E3]
    rw [cnd_dec]
    constructor
    · intro h
      have : (39 : UInt8) ∉ s := by
        intro hm
        have := List.count_pos_iff.2 hm
        omega
      have := hR w' hS
      rw [qS_no ‹(39 : UInt8) ∉ s›] at this
      exact this
    intro h
    rw [cnd_dec]
    constructor
    · intro _
      exact hk2 _ _ _ ⟨rfl, rfl, by omega⟩
    · intro h; omega
  rintro x y w'' ⟨rfl, rfl, hpos⟩
  have hcl : s.count 39 ≤ s.length := List.count_le_length
  refine hS.al fun b10 w1 h1 => ?_
  try simp only [↓E1, ↓E2, ↓E3]
  have e : IntKind.i64.wrap ((s.length : Int) + IntKind.i64.wrap (((s.count 39 : Nat) : Int) * IntKind.i64.wrap ((([39, 39] : List UInt8).length : Int) - (([39] : List UInt8).length : Int)))) = ((s.length + s.count 39 : Nat) : Int) := by
    have a1 : (([39, 39] : List UInt8).length : Int) - (([39] : List UInt8).length : Int) = 1 := rfl
    rw [a1, wrap64_of (n := 1) (by omega) (by omega), Int.mul_one, wrap64_of (n := ((s.count 39 : Nat) : Int)) (by omega) (by omega), wrap64_nat (by omega)]
  rw [e]
  refine c_grow0 (by omega) (by omega) h1 fun v2 hp2 w2 hg2 h2 => ?_
  try simp only [↓E1, ↓E2, ↓E3]
  refine jn1 (fun x w3 => ∃ don rest v hp, x = i64 ((don.length : Nat) : Int) ∧ s = don ++ rest ∧ rest.count 39 = 0 ∧ Grow Ty.uint8 1 v (qS don).length (bcs (qS don)) hp ∧ Sat g w3 ((b10, bld (ptr b10 0) v) :: (hp ++ H))) ?_ ?_
  · rintro x w3 ⟨don, rest, v, hp, rfl, hsp, hc, hg, h3⟩
    have hl : s.length = don.length + rest.length := by rw [hsp, List.length_append]
    have hq := qS_len don
    rw [sl_lo]
    refine ⟨by omega, by omega, ?_⟩
    try simp only [↓E2]
    have ed : s.drop (((don.length : Nat) : Int).toNat) = rest := by rw [Int.toNat_natCast, hsp, List.drop_left']; rfl
    rw [ed]
    refine gc_WriteString fits_builder h3 (.inr rfl) hg (by omega) fun v4 hp4 w4 hg4 h4 => ?_
    try simp only [↓E2, ↓E3]
    refine c_BString (n := (qS don).length + rest.length) (l := qS don ++ rest) h4 hg4 (by omega) fun w5 h5 => ?_
    try simp only [↓E3]
    have hno : (39 : UInt8) ∉ rest := by
      intro hm
      have := List.count_pos_iff.2 hm
      omega
    have : qS s = qS don ++ rest := by rw [hsp, qS_app, qS_no hno]
    rw [← this]
    exact hR w5 h5.tail
  · intro k3 hk3
    have e1 : decide ((0 : Int) < (([39] : List UInt8).length : Int)) = true := rfl
    simp only [e1, ↓E3]
    refine lp2 (fun m x y w3 => ∃ don rest v hp j, x = i64 ((don.length : Nat) : Int) ∧ y = i64 ((j : Nat) : Int) ∧ m = s.count 39 - j ∧ j ≤ s.count 39 ∧ s = don ++ rest ∧ rest.count 39 = s.count 39 - j ∧ Grow Ty.uint8 1 v (qS don).length (bcs (qS don)) hp ∧ Sat g w3 ((b10, bld (ptr b10 0) v) :: (hp ++ H))) (s.count 39)
      ⟨[], s, v2, hp2, 0, rfl, rfl, rfl, by omega, rfl, rfl, hg2, h2⟩ ?_
    rintro m x y w3 ⟨don, rest, v, hp, j, rfl, rfl, rfl, hj, hsp, hc, hg, h3⟩
    have hl : s.length = don.length + rest.length := by rw [hsp, List.length_append]
    have hq := qS_len don
    try simp only [↓E1, ↓E2, ↓E3]
    rw [cnd_dec]
    constructor
    · intro hlt
      rw [sl_lo]
      refine ⟨by omega, by omega, ?_⟩
      have ed : s.drop (((don.length : Nat) : Int).toNat) = rest := by rw [Int.toNat_natCast, hsp, List.drop_left']; rfl
      rw [ed]
      try simp only [↓E2]
      refine c_index1 ?_
      cases hix : idx 39 rest with
      | none =>
        have hno := idxGo_no hix
        have : rest.count 39 = 0 := List.count_eq_zero.2 hno
        omega
      | some q =>
        obtain ⟨pre, post, hr, hq0, hno⟩ := idxGo_split hix
        have hq1 : q = pre.length := by omega
        subst hq1
        have hlr : rest.length = pre.length + (1 + post.length) := by rw [hr]; simp; omega
        try simp only [↓E1, ↓E2, ↓E3, idxI]
        rw [wrap64_nat (by omega), sl_lo_hi]
        refine ⟨by omega, by omega, by omega, ?_⟩
        have et : (s.drop (((don.length : Nat) : Int).toNat)).take ((((don.length + pre.length : Nat) : Int).toNat) - (((don.length : Nat) : Int).toNat)) = pre := by
          rw [ed, Int.toNat_natCast, Int.toNat_natCast, Nat.add_sub_cancel_left, hr, List.take_left']; rfl
        rw [et]
        try simp only [↓E2]
        refine gc_WriteString fits_builder h3 (.inr rfl) hg (by omega) fun v4 hp4 w4 hg4 h4 => ?_
        try simp only [↓E2, ↓E3]
        refine gc_WriteString (l := qS don ++ pre) (t := [39, 39]) fits_builder h4 (.inr rfl) hg4 (by simp; omega) fun v5 hp5 w5 hg5 h5 => ?_
        try simp only [↓E1, ↓E2, ↓E3]
        have e5 : IntKind.i64.wrap (((don.length + pre.length : Nat) : Int) + (([39] : List UInt8).length : Int)) = ((don.length + pre.length + 1 : Nat) : Int) := by
          rw [wrap64_of (by simp; omega) (by simp; omega)]; simp
        rw [e5, wrap64_succ (by omega)]
        have hdn : don ++ (pre ++ [39]) ++ post = s := by rw [hsp, hr]; simp
        have hqd : qS (don ++ (pre ++ [39])) = qS don ++ pre ++ [39, 39] := by rw [qS_app, qS_app, qS_no hno]; simp [qS]
        refine ⟨s.count 39 - (j + 1), by omega, _, _, rfl, don ++ (pre ++ [39]), post, v5, hp5, j + 1, by simp; omega, rfl, rfl, by omega, hdn.symm, ?_, ?_, h5⟩
        · rw [hr, List.count_append, List.count_cons] at hc
          have : pre.count 39 = 0 := List.count_eq_zero.2 hno
          simp at hc
          omega
        · rw [hqd]
          have en : (qS don ++ pre ++ [39, 39]).length = (qS don).length + pre.length + ([39, 39] : List UInt8).length := by simp; omega
          rw [en]
          exact hg5
    · intro hge
      have : j = s.count 39 := by omega
      subst this
      try simp only [↓E3]
      exact hk3 _ _ ⟨don, rest, v, hp, rfl, hsp, by omega, hg, h3⟩

theorem quoteS_eq (t : List UInt8) : quoteS t = 39 :: (qS t ++ [39]) := rfl

theorem c_Quote {s : List UInt8} (hs : s.length ≤ 268435456) (hS : Sat g w H) (hR : ∀ w', Sat g w' H → R (.returned (str (quoteS s))) w') : Tr P F.lex_Quote [str s] w R := by
  apply t_lex_Quote
  unfold d_lex_Quote
  try simp only [↓E2]
  refine c_replaceAll hs hS fun w1 h1 => ?_
  have hq := qS_len s
  have e39 : (Value.string { data := #[39] }) = str [39] := rfl
  try rw [e39]
  try simp only [↓E2, ↓E3]
  rw [bS_add]
  refine ⟨by simp; omega, ?_⟩
  rw [bS_add]
  refine ⟨by simp; omega, ?_⟩
  have := hR w1 h1
  rw [quoteS_eq] at this
  simpa using this

theorem quoteS_len (t : List UInt8) : (quoteS t).length ≤ 2 * t.length + 2 := by
  have := qS_len t
  rw [quoteS_eq]
  simp
  omega

theorem c_plainSym {s : List UInt8} (hs : Short s) (hS : Sat g w H) (hR : ∀ w', Sat g w' H → R (.returned (.bool (plainSymS s))) w') : Tr P F.lex_PlainSymbol [str s] w R := by
  apply t_lex_PlainSymbol
  unfold d_lex_PlainSymbol
  refine bdI (cs := [str s, i64 0]) rfl ?_
  refine hS.al fun b8 w1 h1 => ?_
  have h1 : Sat g w1 ((b8, rdr s 0) :: H) := h1
  refine jn1 (fun x w' => (s.isEmpty || s.headD 0 == 39) = false ∧ w' = w1) ?_ ?_
  · rintro x w' ⟨hb, rfl⟩
    try simp only [↓E2]
    refine c_symbol hs (Nat.zero_le _) h1 fun w2 h2 => ?_
    have hp : plainSymS s = ((symbolS s 0).1.2 && (symbolS s 0).1.1 == s) := by
      unfold plainSymS
      rw [hb]
      rfl
    try simp only [↓E2, ↓E3]
    rw [cnd_eq]
    constructor
    · intro hok
      try simp only [↓E2, ↓E3]
      have := hR w2 h2.tail
      rw [hp, hok, Bool.true_and] at this
      have e : decide ((symbolS s 0).1.1 = s) = ((symbolS s 0).1.1 == s) := by
        rw [Bool.eq_iff_iff]; simp
      rw [e]
      exact this
    · intro hno
      have := hR w2 h2.tail
      rw [hp, hno, Bool.false_and] at this
      exact this
  · intro k1 hk1
    have es : (Value.string { data := #[] }) = str [] := rfl
    try rw [es]
    try simp only [↓E2]
    rw [cnd_dec]
    constructor
    · rintro rfl
      have := hR w1 h1.tail
      exact this
    · intro hne
      obtain ⟨c, t, rfl⟩ : ∃ c t, s = c :: t := by
        cases s with
        | nil => exact absurd rfl hne
        | cons c t => exact ⟨c, t, rfl⟩
      refine ⟨by omega, c, rfl, ?_⟩
      try simp only [↓E1]
      rw [cnd_dec]
      constructor
      · intro h39
        have hc : c = 39 := by
          apply UInt8.toNat_inj.1
          have : ((c.toNat : Nat) : Int) = 39 := h39
          show c.toNat = 39
          omega
        subst hc
        exact hR w1 h1.tail
      · intro h39
        try simp only [↓E3]
        refine hk1 _ _ ⟨?_, rfl⟩
        have : (c == 39) = false := by
          rw [beq_eq_false_iff_ne]
          rintro rfl
          exact h39 rfl
        simp [this]
end Go.Vx
namespace Go.Vx
open Go Go.Proofs
variable {R : Ending → World → Prop} {g : G} {w : World} {H hp T : Hp}

theorem litS_len : ∀ n : Node, (litS n).length + 1 ≤ 4 * msr n := by
  refine Node.ind fun k t p nn ns ks ih => ?_
  have hl : ∀ (ks : List Node) (first : Bool), (∀ x ∈ ks, (litS x).length + 1 ≤ 4 * msr x) → (litsS ks first).length ≤ 4 * msrs ks := by
    intro ks
    induction ks with
    | nil => intro _ _; simp [litsS]
    | cons x ks ihk =>
      intro first h
      have h1 := ihk false fun y hy => h y (by simp [hy])
      have h2 := h x (by simp)
      simp only [litsS, List.length_append, msrs]
      have : (bif first then ([] : List UInt8) else [32]).length ≤ 1 := by cases first <;> simp
      omega
  have h1 := hl ks true ih
  have h2 := quoteS_len t
  simp only [litS, msr]
  cases Nat.beq k 2
  · cases Nat.beq k 3
    · cases Nat.beq k 4
      · simp only [cond_false]; omega
      · simp only [cond_true, cond_false, List.length_cons, List.length_append, List.length_nil]; omega
    · cases plainSymS t
      · simp only [cond_true, cond_false, List.length_cons]; omega
      · simp only [cond_true, cond_false, List.length_cons]; omega
  · simp only [cond_true]; omega

def WriteN (n : Node) : Prop := ∀ {g : G} {w : World} {H hp : Hp} {R : Ending → World → Prop} {b : Nat} {p v : Value} {c : List Value} {acc : List UInt8},
  NodeR g c n → Adr b p → Grow Ty.uint8 1 v acc.length (bcs acc) hp → acc.length + 4 * msr n ≤ 1073741824 → Sat g w ((b, bldT Ty.tree_writer p v) :: (hp ++ H)) →
  (∀ v' hp' w', Grow Ty.uint8 1 v' (acc ++ litS n).length (bcs (acc ++ litS n)) hp' → Sat g w' ((b, bldT Ty.tree_writer (ptr b 0) v') :: (hp' ++ H)) → R (.returned (.tuple #[])) w') → Tr P F.tree_writer_node [ptr b 0, .agg c.toArray] w R

theorem c_wlist {ks : List Node} (ih : ∀ x ∈ ks, WriteN x) {b : Nat} {p v kv : Value} {kcs : List (List Value)} {acc : List UInt8} (hkv : Sl g 6 kv ks.length kcs.flatten) (hkr : KR g kcs ks) (hp0 : p = ptr b 0) (hgr : Grow Ty.uint8 1 v acc.length (bcs acc) hp)
    (hb : acc.length + 4 * msrs ks + 1 ≤ 1073741824) (hS : Sat g w ((b, bldT Ty.tree_writer p v) :: (hp ++ H)))
    (hR : ∀ v' hp' w', Grow Ty.uint8 1 v' (acc ++ litsS ks true).length (bcs (acc ++ litsS ks true)) hp' → Sat g w' ((b, bldT Ty.tree_writer (ptr b 0) v') :: (hp' ++ H)) → R (.returned (.tuple #[])) w') : Tr P F.tree_writer_list [ptr b 0, kv, str [32]] w R := by
  subst hp0
  apply t_tree_writer_list
  unfold d_tree_writer_list
  obtain ⟨ka, kc, rfl, _, _, _⟩ := id hkv
  have hkl2 := len_msrs ks
  simp only [↓E2]
  refine lp1 (fun m x w' => ∃ i v' hp' acc', x = i64 ((i : Nat) : Int) ∧ m = ks.length - i ∧ i ≤ ks.length ∧ acc'.length + 4 * msrs (ks.drop i) ≤ acc.length + 4 * msrs ks ∧ acc' ++ litsS (ks.drop i) (Nat.beq i 0) = acc ++ litsS ks true ∧
      Grow Ty.uint8 1 v' acc'.length (bcs acc') hp' ∧ Sat g w' ((b, bldT Ty.tree_writer (ptr b 0) v') :: (hp' ++ H))) ks.length
    ⟨0, v, hp, acc, rfl, rfl, by omega, by simp, rfl, hgr, hS⟩ ?_
  rintro m x w1 ⟨i, v1, hp1, acc1, rfl, rfl, hi, hl, hacc, hg1, h1⟩
  try simp only [↓E1, ↓E2, ↓E3]
  rw [cnd_dec]
  constructor
  · intro hlt
    obtain ⟨x, hx⟩ : ∃ x, ks[i]? = some x := ⟨_, List.getElem?_eq_getElem (by omega)⟩
    have hxm : x ∈ ks := List.mem_of_getElem? hx
    refine hkr.at hkv hx h1 fun c5 hc5 => ?_
    refine h1.al fun b7 w2 h2 => ?_
    refine st_box (c2 := zN) h2 hc5.len rfl hc5.one fun w3 h3 => ?_
    have hdr : ks.drop i = x :: ks.drop (i + 1) := by
      rw [List.drop_eq_getElem_cons (List.getElem?_eq_some_iff.1 hx).1, (List.getElem?_eq_some_iff.1 hx).2]
    rw [hdr] at hl hacc
    simp only [msrs] at hl
    simp only [litsS] at hacc
    have hlx := litS_len x
    -- the node, behind what stands between
    have node : ∀ (acc2 : List UInt8) (v2 : Value) (hp2 : Hp) (w4 : World), acc2 = acc1 ++ (bif Nat.beq i 0 then [] else [32]) → acc2.length ≤ acc1.length + 1 → Grow Ty.uint8 1 v2 acc2.length (bcs acc2) hp2 → Sat g w4 ((b7, box c5) :: (b, bldT Ty.tree_writer (ptr b 0) v2) :: (hp2 ++ H)) → (i = 0 → acc2.length ≤ acc1.length) →
        ldn 6 (ptr b7 0) (fun t23 w => Tr P F.tree_writer_node [ptr b 0, t23] w (Vx.back (fun _ w => ∃ m', m' < ks.length - i ∧ ∃ y, [i64 (IntKind.i64.wrap ((i : Int) + 1))] = [y] ∧ ∃ i v' hp' acc', y = i64 ((i : Nat) : Int) ∧ m' = ks.length - i ∧ i ≤ ks.length ∧ acc'.length + 4 * msrs (ks.drop i) ≤ acc.length + 4 * msrs ks ∧ acc' ++ litsS (ks.drop i) (Nat.beq i 0) = acc ++ litsS ks true ∧
          Grow Ty.uint8 1 v' acc'.length (bcs acc') hp' ∧ Sat g w ((b, bldT Ty.tree_writer (ptr b 0) v') :: (hp' ++ H))) (fun ch w => R (.panicked ch) w))) w4 := by
      intro acc2 v2 hp2 w4 he hle hg2 h4 hz
      refine h4.ldn0 (c := c5) hc5.len.symm ?_
      refine ih x hxm hc5 (.inr rfl) hg2 (by omega) h4.tail fun v5 hp5 w5 hg5 h5 => ?_
      try simp only [↓E3]
      rw [wrap64_succ (by omega)]
      refine ⟨ks.length - (i + 1), by omega, _, rfl, i + 1, v5, hp5, acc2 ++ litS x, rfl, rfl, by omega, ?_, ?_, hg5, h5⟩
      · rw [List.length_append]
        omega
      · rw [← hacc, he]
        show _ ++ litsS (ks.drop (i + 1)) false = _
        simp only [List.append_assoc]
    try simp only [↓E1, ↓E2, ↓E3]
    rw [cnd_dec]
    constructor
    · intro hpos
      have hi0 : Nat.beq i 0 = false := by
        cases hb : Nat.beq i 0 with
        | false => rfl
        | true => have := Nat.eq_of_beq_eq_true hb; omega
      try simp only [↓E1, ↓E2, ↓E3, Nat.reduceAdd]
      have h3' : Sat g w3 ((b, bldT Ty.tree_writer (ptr b 0) v1) :: (hp1 ++ ((b7, box c5) :: H))) := h3.perm (List.perm_append_comm_assoc [_] ((b, bldT Ty.tree_writer (ptr b 0) v1) :: hp1) H)
      refine gc_WriteString (l := acc1) (t := [32]) fits_writer h3' (.inr rfl) hg1 (by simp; omega) fun v4 hp4 w4 hg4 h4 => ?_
      try simp only [↓E3]
      refine node (acc1 ++ [32]) v4 hp4 w4 (by rw [hi0]; rfl) (by simp) (by simpa using hg4) ?_ (fun h => by omega)
      exact h4.perm (List.perm_append_comm_assoc ((b, bldT Ty.tree_writer (ptr b 0) v4) :: hp4) [_] H)
    · intro hz
      have : i = 0 := by omega
      subst this
      refine node acc1 v1 hp1 w3 ?_ (by omega) hg1 h3 (fun _ => Nat.le_refl _)
      show acc1 = acc1 ++ []
      rw [List.append_nil]
  · intro hge
    have : i = ks.length := by omega
    subst this
    rw [List.drop_length] at hacc
    simp only [litsS, List.append_nil] at hacc
    rw [hacc] at hg1
    exact hR v1 hp1 w1 hg1 h1

theorem c_wnode : ∀ n, LitN n → WriteN n := by
  refine Node.ind fun k t pp nn ns ks ih => ?_
  intro hlit g w H hp R b p v c acc hn hadr hgr hb hS hR
  apply t_tree_writer_node
  unfold d_tree_writer_node
  have hlitk : k = 1 ∨ k = 2 ∨ k = 3 ∨ k = 13 ∨ k = 4 := by
    cases hlit with
    | leaf h => omega
    | list h => omega
  have hkids : ∀ x ∈ ks, WriteN x := by
    cases hlit with
    | leaf h => intro x hx; simp at hx
    | list h => exact fun x hx => ih x hx (h x hx)
  clear hlit
  cases hn with
  | @mk _ _ _ _ _ _ nv kv kcs hnv hkv hkl hkr =>
  have hkr : KR g kcs ks := ⟨hkl, hkr⟩
  have hlen := litS_len (.mk k t pp nn ns ks)
  simp only [msr] at hb hlen
  obtain ⟨c, hcd⟩ : ∃ c, c = [i64 (k : Int), str t, i64 (pp : Int), i64 (nn : Int), nv, kv] := ⟨_, rfl⟩
  rw [← hcd]
  have hclen : c.length = 6 := by rw [hcd]; rfl
  have g0 : c.getD 0 undef = i64 (k : Int) := by rw [hcd]; rfl
  have g1 : c.getD 1 undef = str t := by rw [hcd]; rfl
  have g5 : c.getD 5 undef = kv := by rw [hcd]; rfl
  clear hcd
  refine hS.al fun b3 w1 h1 => ?_
  have h1 : Sat g w1 ((b3, box c) :: (b, bldT Ty.tree_writer p v) :: (hp ++ H)) := by
    have e : (Value.agg c.toArray).cells.toList = c := by simp [Value.cells]
    rw [e] at h1
    exact h1
  have toW : ∀ {w' : World} {p' v' : Value} {hp' : Hp}, Sat g w' ((b3, box c) :: (b, bldT Ty.tree_writer p' v') :: (hp' ++ H)) → Sat g w' ((b, bldT Ty.tree_writer p' v') :: (hp' ++ ((b3, box c) :: H))) := fun {w' p' v' hp'} h =>
    h.perm (List.perm_append_comm_assoc [_] ((b, bldT Ty.tree_writer p' v') :: hp') H)
  have toB : ∀ {w' : World} {p' v' : Value} {hp' : Hp}, Sat g w' ((b, bldT Ty.tree_writer p' v') :: (hp' ++ ((b3, box c) :: H))) → Sat g w' ((b3, box c) :: (b, bldT Ty.tree_writer p' v') :: (hp' ++ H)) := fun {w' p' v' hp'} h =>
    h.perm (List.perm_append_comm_assoc ((b, bldT Ty.tree_writer p' v') :: hp') [_] H)
  have wr : ∀ (t2 : List UInt8) (w' : World), t2 = litS (.mk k t pp nn ns ks) → Sat g w' ((b3, box c) :: (b, bldT Ty.tree_writer p v) :: (hp ++ H)) → Tr P F.strings_Builder_WriteString [ptr b 0, str t2] w' (Vx.back (fun _ w => R (.returned (.tuple #[])) w) (fun ch w => R (.panicked ch) w)) := by
    intro t2 w' he h
    subst he
    refine gc_WriteString fits_writer (toW h) hadr hgr (by omega) fun v4 hp4 w4 hg4 h4 => ?_
    try simp only [↓E3]
    refine hR v4 hp4 w4 (by rw [List.length_append]; exact hg4) ?_
    exact (toB h4).tail
  have hts : Short t := by unfold Short; omega
  try simp only [↓E1, ↓E2, ↓E3, Nat.reduceAdd]
  rw [h1.ld0 0 _ (by omega), g0]
  try simp only [↓E1, ↓E2, ↓E3, Nat.reduceAdd]
  rw [cnd_dec]
  constructor
  · intro hk
    have : k = 2 := by omega
    subst this
    have h2 := h1.drew
    try simp only [↓E1, ↓E2, ↓E3, Nat.reduceAdd]
    rw [h2.ld0 1 _ (by omega), g1]
    try simp only [↓E1, ↓E2, ↓E3, Nat.reduceAdd]
    refine c_Quote (by omega) h2 fun w3 h3 => ?_
    try simp only [↓E1, ↓E2, ↓E3, Nat.reduceAdd]
    exact wr _ w3 rfl h3
  intro hk2
  try simp only [↓E1, ↓E2, ↓E3, Nat.reduceAdd]
  rw [cnd_dec]
  constructor
  · intro hk
    have : k = 3 := by omega
    subst this
    try simp only [↓E1, ↓E2, ↓E3, Nat.reduceAdd]
    rw [h1.ld0 1 _ (by omega), g1]
    try simp only [↓E1, ↓E2, ↓E3, Nat.reduceAdd]
    refine jn1 (fun x w' => x = str (bif plainSymS t then t else quoteS t) ∧ Sat g w' ((b3, box c) :: (b, bldT Ty.tree_writer p v) :: (hp ++ H))) ?_ ?_
    · rintro x w2 ⟨rfl, h2⟩
      have e35 : (Value.string { data := #[35] }) = str [35] := rfl
      try rw [e35]
      try simp only [↓E1, ↓E2, ↓E3, Nat.reduceAdd]
      rw [bS_add]
      refine ⟨?_, wr _ w2 rfl h2⟩
      have := quoteS_len t
      cases plainSymS t
      · simp only [cond_false, List.length_cons, List.length_nil]; omega
      · simp only [cond_true, List.length_cons, List.length_nil]; omega
    · intro k1 hk1
      refine c_plainSym hts h1 fun w2 h2 => ?_
      try simp only [↓E1, ↓E2, ↓E3, Nat.reduceAdd]
      rw [cnd_eq]
      constructor
      · intro hq
        have hq : plainSymS t = false := by simpa using hq
        try simp only [↓E1, ↓E2, ↓E3, Nat.reduceAdd]
        refine c_Quote (by omega) h2 fun w3 h3 => ?_
        try simp only [↓E1, ↓E2, ↓E3, Nat.reduceAdd]
        exact hk1 _ _ ⟨by rw [hq]; rfl, h3⟩
      · intro hq
        have hq : plainSymS t = true := by simpa using hq
        try simp only [↓E1, ↓E2, ↓E3, Nat.reduceAdd]
        exact hk1 _ _ ⟨by rw [hq]; rfl, h2⟩
  intro hk3
  try simp only [↓E1, ↓E2, ↓E3, Nat.reduceAdd]
  rw [cnd_dec]
  constructor
  · intro hk
    have : k = 4 := by omega
    subst this
    have e2 : (Value.string { data := #[35, 40] }) = str [35, 40] := rfl
    have e3 : (Value.string { data := #[32] }) = str [32] := rfl
    try rw [e2]
    try rw [e3]
    try simp only [↓E1, ↓E2, ↓E3, Nat.reduceAdd]
    refine gc_WriteString (t := [35, 40]) fits_writer (toW h1) hadr hgr (by simp; omega) fun v4 hp4 w4 hg4 h4 => ?_
    have h4 := toB h4
    try simp only [↓E1, ↓E2, ↓E3, Nat.reduceAdd]
    rw [h4.ld0 5 _ (by omega), g5]
    try simp only [↓E1, ↓E2, ↓E3, Nat.reduceAdd]
    have e4 : litS (.mk 4 t pp nn ns ks) = 35 :: 40 :: (litsS ks true ++ [41]) := by simp only [litS]; rfl
    have hll : (litsS ks true).length + 4 ≤ 4 * (1 + t.length + nsM ns + msrs ks) := by
      rw [e4] at hlen
      simp only [List.length_cons, List.length_append, List.length_nil] at hlen
      omega
    refine c_wlist (acc := acc ++ [35, 40]) hkids hkv hkr rfl (by simpa using hg4) (by simp; omega) (toW h4) fun v5 hp5 w5 hg5 h5 => ?_
    try simp only [↓E1, ↓E2, ↓E3, Nat.reduceAdd]
    refine gc_WriteByte (c := 41) fits_writer h5 (.inr rfl) hg5 (by simp; omega) fun v6 hp6 w6 hg6 h6 => ?_
    try simp only [↓E1, ↓E2, ↓E3, Nat.reduceAdd]
    refine hR v6 hp6 w6 ?_ (toB h6).tail
    have e : acc ++ litS (.mk 4 t pp nn ns ks) = acc ++ [35, 40] ++ litsS ks true ++ [41] := by rw [e4]; simp
    rw [e, List.length_append (bs := [41])]
    exact hg6
  intro hk4
  have hl1 : litS (.mk k t pp nn ns ks) = t := by
    have : k = 1 ∨ k = 13 := by omega
    rcases this with rfl | rfl <;> rfl
  have no : ∀ j : Nat, (j = 6 ∨ j = 7 ∨ j = 8 ∨ j = 10 ∨ j = 11 ∨ j = 12) → decide ((k : Int) = (j : Int)) = false := by
    intro j hj
    rw [decide_eq_false_iff_not]
    omega
  have n6 := no 6 (by decide)
  have n7 := no 7 (by decide)
  have n8 := no 8 (by decide)
  have n10 := no 10 (by decide)
  have n11 := no 11 (by decide)
  have n12 := no 12 (by decide)
  try simp only [↓E1, ↓E2, ↓E3, Nat.reduceAdd]
  rw [show decide ((k : Int) = 6) = false from n6]
  try simp only [↓E1, ↓E2, ↓E3, Nat.reduceAdd]
  rw [show decide ((k : Int) = 7) = false from n7]
  try simp only [↓E1, ↓E2, ↓E3, Nat.reduceAdd]
  rw [show decide ((k : Int) = 8) = false from n8]
  try simp only [↓E1, ↓E2, ↓E3, Nat.reduceAdd]
  rw [show decide ((k : Int) = 10) = false from n10]
  try simp only [↓E1, ↓E2, ↓E3, Nat.reduceAdd]
  rw [show decide ((k : Int) = 11) = false from n11]
  try simp only [↓E1, ↓E2, ↓E3, Nat.reduceAdd]
  rw [show decide ((k : Int) = 12) = false from n12]
  try simp only [↓E1, ↓E2, ↓E3, Nat.reduceAdd]
  have h2 := h1.drew
  rw [h2.ld0 1 _ (by omega), g1]
  try simp only [↓E1, ↓E2, ↓E3, Nat.reduceAdd]
  exact wr t _ hl1.symm h2

theorem c_Text {n : Node} {c : List Value} (hlit : LitN n) (hn : NodeR g c n) (hm : msr n ≤ 134217728) (hS : Sat g w H) (hR : ∀ w', Sat g w' H → R (.returned (str (litS n))) w') : Tr P F.tree_Text [.agg c.toArray] w R := by
  apply t_tree_Text
  unfold d_tree_Text
  have e : (Value.agg c.toArray).cells.toList = c := by simp [Value.cells]
  rw [e]
  refine hS.al fun b1 w1 h1 => h1.al fun b3 w2 h2 => ?_
  have h2 : Sat g w2 ((b3, bldT Ty.tree_writer (.pointer none) (.slice none 0 0)) :: (b1, box c) :: H) := h2
  refine h2.ldnH (b := b1) (c := c) (t := Ty.tree_Node) (fr := (0, 0)) (by simp) 6 0 (by rw [hn.len]; decide) ?_
  rw [List.drop_zero, List.take_of_length_le (by rw [hn.len]; decide)]
  try simp only [↓E1, ↓E2, ↓E3, Nat.reduceAdd]
  have hl := litS_len n
  refine c_wnode n hlit (acc := []) (hp := []) hn (.inl rfl) .nil (by simp; omega) h2 fun v3 hp3 w3 hg3 h3 => ?_
  try simp only [↓E1, ↓E2, ↓E3, Nat.reduceAdd]
  refine gc_BString (l := litS n) (n := (litS n).length) h3 (by simpa using hg3) (by omega) fun w4 h4 => ?_
  try simp only [↓E1, ↓E2, ↓E3, Nat.reduceAdd]
  exact hR w4 h4.tail.tail
end Go.Vx
namespace Go.Vx
open Go Go.Proofs
variable {R : Ending → World → Prop} {g : G} {w : World} {H hp T : Hp}

def insC (i : Ins) : List Value := [i64 (i.op : Int), i64 (i.a : Int), i64 (i.b : Int)]
def insZ (l : List Ins) : List Value := (l.map insC).flatten
theorem insZ_snoc (l : List Ins) (i : Ins) : insZ (l ++ [i]) = insZ l ++ insC i := by simp [insZ]

/-- Units' cells, and what lies behind them. -/
inductive UR : List CU → List Value → Hp → Prop
  | nil : UR [] [] []
  | cons {u : CU} {us : List CU} {v : Value} {cs : List Value} {hp1 hp2 : Hp} (hg : Grow Ty.code_Ins 3 v u.ins.length (insZ u.ins) hp1) (hr : UR us cs hp2) : UR (u :: us) (i64 (u.args : Int) :: i64 (u.names : Int) :: v :: cs) (hp1 ++ hp2)

theorem UR.len {us : List CU} {cs : List Value} (h : UR us cs hp) : cs.length = us.length * 3 := by
  induction h with
  | nil => rfl
  | cons _ _ ih => simp only [List.length_cons, ih]; omega
theorem UR.snoc {us : List CU} {cs : List Value} (h : UR us cs hp) (a n : Nat) : UR (us ++ [⟨a, n, []⟩]) (cs ++ [i64 (a : Int), i64 (n : Int), .slice none 0 0]) hp := by
  induction h with
  | nil => exact .cons (hp1 := []) (hp2 := []) .nil .nil
  | cons hg _ ih => exact .cons hg ih

/-- One unit of them. -/
theorem UR.split {us : List CU} {cs : List Value} (h : UR us cs hp) {u : Nat} (hu : u < us.length) (i : Ins) : ∃ x v csA csB hp1 hpx hp2, us[u]? = some x ∧ hp = hp1 ++ (hpx ++ hp2) ∧ cs = csA ++ (i64 (x.args : Int) :: i64 (x.names : Int) :: v :: csB) ∧ csA.length = u * 3 ∧
    Grow Ty.code_Ins 3 v x.ins.length (insZ x.ins) hpx ∧ ∀ v' hpx', Grow Ty.code_Ins 3 v' (x.ins.length + 1) (insZ (x.ins ++ [i])) hpx' → UR (modU us u i) (csA ++ (i64 (x.args : Int) :: i64 (x.names : Int) :: v' :: csB)) (hp1 ++ (hpx' ++ hp2)) := by
  induction h generalizing u with
  | nil => simp at hu
  | @cons y us v cs hp1 hp2 hg hr ih =>
    cases u with
    | zero => exact ⟨y, v, [], cs, [], hp1, hp2, rfl, rfl, rfl, rfl, hg, fun v' hpx' hg' => show UR _ _ (hpx' ++ hp2) from .cons (u := ⟨y.args, y.names, y.ins ++ [i]⟩) (by simpa using hg') hr⟩
    | succ u =>
      obtain ⟨x, v2, csA, csB, p1, px, p2, h1, h2, h3, h4, h5, h6⟩ := ih (u := u) (by simpa using hu)
      refine ⟨x, v2, i64 (y.args : Int) :: i64 (y.names : Int) :: v :: csA, csB, hp1 ++ p1, px, p2, by simpa using h1, by rw [h2, List.append_assoc], by rw [h3]; rfl, by simp only [List.length_cons, h4]; omega, h5, fun v' hpx' hg' => ?_⟩
      have := UR.cons hg (h6 v' hpx' hg')
      rw [← List.append_assoc] at this
      exact this

abbrev mkO (sel : List UInt8) (vU vL vN vS vX : Value) : Obj := .cells [str sel, vU, vL, vN, vS, vX].toArray Ty.code_maker

/-- A maker. -/
def MR (g : G) (sel : List UInt8) (b : Nat) (m : MK) (hp : Hp) : Prop :=
  ∃ vU cU hU hI vL hL vN hN vS hS vX, UR m.units cU hI ∧ Grow Ty.code_Unit 3 vU m.units.length cU hU ∧ Grow Ty.string 1 vL m.lits.length (m.lits.map str) hL ∧ Grow Ty.string 1 vN m.names.length (m.names.map str) hN ∧
    Grow Ty.string 1 vS m.sels.length (m.sels.map str) hS ∧ Sl g 6 vX m.uses.length (useZ m.uses) ∧ hp = (b, mkO sel vU vL vN vS vX) :: (hU ++ (hI ++ (hL ++ (hN ++ hS))))

theorem MR.mono {g g' : G} (hg : g.le g') {sel : List UInt8} {b : Nat} {m : MK} (h : MR g sel b m hp) : MR g' sel b m hp := by
  obtain ⟨vU, cU, hU, hI, vL, hL, vN, hN, vS, hS, vX, h1, h2, h3, h4, h5, h6, h7⟩ := h
  exact ⟨vU, cU, hU, hI, vL, hL, vN, hN, vS, hS, vX, h1, h2, h3, h4, h5, h6.mono hg, h7⟩

def insT : List CU → Nat
  | [] => 0
  | u :: l => u.ins.length + insT l
/-- How great a maker is. -/
def tot (m : MK) : Nat := insT m.units + m.units.length + m.lits.length + m.names.length + m.sels.length
theorem insT_at {us : List CU} {u : Nat} {x : CU} (h : us[u]? = some x) : x.ins.length ≤ insT us := by
  induction us generalizing u with
  | nil => simp at h
  | cons y us ih =>
    cases u with
    | zero => simp at h; subst h; simp [insT]
    | succ u => have := ih (u := u) (by simpa using h); simp only [insT]; omega

theorem c_add {sel : List UInt8} {b u : Nat} {m : MK} {op a bb : Nat} (hM : MR g sel b m hp) (hu : u < m.units.length) (ht : tot m ≤ 1073741824) (hS : Sat g w (hp ++ H))
    (hR : ∀ hp' w', MR g sel b (addI m u ⟨op, a, bb⟩) hp' → Sat g w' (hp' ++ H) → R (.returned (.tuple #[])) w') : Tr P F.code_maker_add [ptr b 0, i64 (u : Int), i64 (op : Int), i64 (a : Int), i64 (bb : Int)] w R := by
  apply t_code_maker_add
  unfold d_code_maker_add
  obtain ⟨vU, cU, hU, hI, vL, hL, vN, hN, vS, hSe, vX, hur, hgU, hgL, hgN, hgS, hX, rfl⟩ := id hM
  rcases hgU.inv with ⟨_, h0, _⟩ | ⟨bU, cc, ex, rfl, hcl, hexl, hcc, hc0, rfl⟩
  · omega
  obtain ⟨x, v, csA, csB, hp1, hpx, hp2, hx, rfl, rfl, hA, hgx, hback⟩ := hur.split hu ⟨op, a, bb⟩
  have hxl := insT_at hx
  have hxt : x.ins.length ≤ 1073741824 := by unfold tot at ht; omega
  have h1 := hS.drew
  have h1 : Sat g w.drew ((b, mkO sel (.slice (some ⟨bU, 0, none⟩) m.units.length cc) vL vN vS vX) :: (bU, .cells ((csA ++ (i64 (x.args : Int) :: i64 (x.names : Int) :: v :: csB)) ++ ex).toArray Ty.code_Unit) :: (hp1 ++ (hpx ++ (hp2 ++ (hL ++ (hN ++ hSe)) ++ H)))) := by
    simpa using h1
  obtain ⟨cells, hcells⟩ : ∃ cells, cells = (csA ++ (i64 (x.args : Int) :: i64 (x.names : Int) :: v :: csB)) ++ ex := ⟨_, rfl⟩
  rw [← hcells] at h1
  have hlen : u * 3 + 2 < cells.length := by rw [hcells]; simp [hA]
  have hget : cells.getD (u * 3 + 2) undef = v := by
    rw [hcells, List.getD_eq_getElem?_getD, List.append_assoc, List.getElem?_append_right (by omega), hA]
    simp
  simp only [↓E1, ↓E2, ↓E3, Nat.reduceAdd]
  rw [h1.ld0 1 _ (by simp)]
  simp only [↓E1, ↓E2, ↓E3, Nat.reduceAdd]
  rw [h1.ld0 1 _ (by simp)]
  simp only [↓E1, ↓E2, ↓E3, Nat.reduceAdd]
  rw [ia_eq]
  refine ⟨by omega, by omega, ?_⟩
  rw [Int.toNat_natCast, Nat.zero_add]
  simp only [↓E1, ↓E2, ↓E3, Nat.reduceAdd]
  rw [h1.ld1 (u * 3 + 2) _ hlen, hget]
  refine bdI (cs := insC ⟨op, a, bb⟩) rfl ?_
  refine h1.bs (cs := insC ⟨op, a, bb⟩) rfl fun bn w2 h2 => ?_
  refine h2.rk (b := bU) (t := Ty.code_Unit) (fr := (0, 0)) (c := cells) (by simp) (by rw [← hget, List.getD_eq_getElem?_getD, List.getElem?_eq_getElem hlen]; rfl) ?_
  refine h2.rk (b := b) (t := Ty.code_maker) (fr := (0, 0)) (c := [str sel, _, vL, vN, vS, vX]) (by simp) rfl ?_
  refine h2.rk (b := b) (t := Ty.code_maker) (fr := (0, 0)) (c := [str sel, _, vL, vN, vS, vX]) (by simp) rfl ?_
  have h3 := Sat.pull1 (A := (b, mkO sel (.slice (some ⟨bU, 0, none⟩) m.units.length cc) vL vN vS vX) :: (bU, .cells cells.toArray Ty.code_Unit) :: hp1) (hp := hpx) h2
  refine h3.ap1 (m := 1) hgx rfl rfl rfl (by omega) (by omega) fun v' hpx' w4 hg4 h4 => ?_
  have h5 := Sat.pull (A := hpx') (hp := (b, mkO sel (.slice (some ⟨bU, 0, none⟩) m.units.length cc) vL vN vS vX) :: (bU, .cells cells.toArray Ty.code_Unit) :: hp1) h4
  have h5 : Sat g w4 ((b, mkO sel (.slice (some ⟨bU, 0, none⟩) m.units.length cc) vL vN vS vX) :: (bU, .cells cells.toArray Ty.code_Unit) :: (hp1 ++ (hpx' ++ (hp2 ++ (hL ++ (hN ++ hSe)) ++ H)))) := h5
  refine h5.rk (b := b) (t := Ty.code_maker) (fr := (0, 0)) (c := [str sel, _, vL, vN, vS, vX]) (by simp) rfl ?_
  rw [ia_eq]
  refine ⟨by omega, by omega, ?_⟩
  rw [Int.toNat_natCast, Nat.zero_add]
  simp only [↓E1, ↓E2, ↓E3, Nat.reduceAdd]
  have hv : v'.cells = #[v'] ∧ one v' = true := by obtain ⟨a, c, rfl⟩ := hg4.slice; exact ⟨rfl, rfl⟩
  refine st_one h5.swap2 hv.1 hv.2 hlen fun w6 h6 => ?_
  have hset : cells.set (u * 3 + 2) v' = (csA ++ (i64 (x.args : Int) :: i64 (x.names : Int) :: v' :: csB)) ++ ex := by
    rw [hcells, List.append_assoc, List.set_append_right _ _ (by omega), hA, List.append_assoc]
    simp
  rw [hset] at h6
  rw [← insZ_snoc] at hg4
  have hur' := hback v' hpx' hg4
  obtain ⟨cs', hcs'⟩ : ∃ cs', cs' = csA ++ (i64 (x.args : Int) :: i64 (x.names : Int) :: v' :: csB) := ⟨_, rfl⟩
  have hcl' : cs'.length = m.units.length * 3 := by rw [hcs', ← hcl]; simp
  rw [← hcs'] at h6 hur'
  refine hR ((b, mkO sel (.slice (some ⟨bU, 0, none⟩) m.units.length cc) vL vN vS vX) :: ([(bU, .cells (cs' ++ ex).toArray Ty.code_Unit)] ++ ((hp1 ++ (hpx' ++ hp2)) ++ (hL ++ (hN ++ hSe))))) w6
    ⟨.slice (some ⟨bU, 0, none⟩) m.units.length cc, cs', [(bU, .cells (cs' ++ ex).toArray Ty.code_Unit)], hp1 ++ (hpx' ++ hp2), vL, hL, vN, hN, vS, hSe, vX, hur', ?_, hgL, hgN, hgS, hX, rfl⟩ ?_
  · have hml : (addI m u ⟨op, a, bb⟩).units.length = m.units.length := by
      show (modU m.units u ⟨op, a, bb⟩).length = _
      have : ∀ (l : List CU) (u : Nat) (i : Ins), (modU l u i).length = l.length := by
        intro l
        induction l with
        | nil => intro u i; rfl
        | cons y l ih => intro u i; cases u <;> simp [modU, ih]
      exact this _ _ _
    rw [hml]
    exact .some hcl' hexl hcc hc0
  · simpa using h6.swap2
end Go.Vx
namespace Go.Vx
open Go Go.Proofs
variable {R : Ending → World → Prop} {g : G} {w : World} {H hp T : Hp}

/-- A slice of texts that grows is read. -/
theorem Grow.rdS {v : Value} {l : List (List UInt8)} (hg : Grow Ty.string 1 v l.length (l.map str) hp) (hS : Sat g w H) (hsub : ∀ x ∈ hp, x ∈ H) {j : Nat} {x : List UInt8} (hx : l[j]? = Option.some x) {K : Value → World → Prop} (hK : K (str x) w) : ia 1 v (i64 (j : Int)) (fun t w => ld t K w) w := by
  have hlt := (List.getElem?_eq_some_iff.1 hx).1
  rcases hg.inv with ⟨_, h0, _⟩ | ⟨b, c, ex, rfl, hl, _, hc, _, rfl⟩
  · omega
  · rw [ia_eq]
    refine ⟨by omega, by omega, ?_⟩
    rw [Int.toNat_natCast, Nat.mul_one, Nat.zero_add]
    rw [hS.ldH (b := b) (c := l.map str ++ ex) (t := Ty.string) (fr := (0, 0)) (hsub _ (by simp)) j _ (by simp; omega)]
    have : (l.map str ++ ex).getD j undef = str x := by
      rw [List.getD_eq_getElem?_getD, List.getElem?_append_left (by simpa using hlt), List.getElem?_map, hx]
      rfl
    rw [this]
    exact hK

theorem c_indexW {v : Value} {l : List (List UInt8)} {t : List UInt8} (hv : ∃ a c, v = .slice a l.length c) (hl : l.length ≤ 4611686018427387904)
    (hrd : ∀ (j : Nat) (x : List UInt8) (K : Value → World → Prop), l[j]? = some x → K (str x) w → ia 1 v (i64 (j : Int)) (fun t w => ld t K w) w)
    (hR : R (.returned (i64 (idxI (idxT t l 0)))) w) : Tr P F.slices_Index_string_string [v, str t] w R := by
  apply t_slices_Index_string_string
  unfold d_slices_Index_string_string
  obtain ⟨a, c, rfl⟩ := hv
  try simp only [↓E2]
  refine lp2 (fun m x y w' => w' = w ∧ ∃ k, y = i64 ((k : Nat) : Int) ∧ m = l.length - k ∧ k ≤ l.length ∧ idxT t (l.drop k) k = idxT t l 0) l.length ⟨rfl, 0, rfl, rfl, by omega, rfl⟩ ?_
  rintro m x y w' ⟨rfl, k, rfl, rfl, hk, hi⟩
  try simp only [↓E1]
  rw [cnd_dec]
  constructor
  · intro hlt
    obtain ⟨x, hx⟩ : ∃ x, l[k]? = some x := ⟨_, List.getElem?_eq_getElem (by omega)⟩
    refine hrd k x _ hx ?_
    try simp only [↓E2]
    rw [idxT_drop hx] at hi
    rw [cnd_dec]
    constructor
    · rintro rfl
      rw [beq_self_eq_true, cond_true] at hi
      rw [← hi] at hR
      exact hR
    · intro hne
      have : (x == t) = false := beq_eq_false_iff_ne.2 (fun e => hne e.symm)
      rw [this, cond_false] at hi
      try simp only [↓E1, ↓E3]
      rw [wrap64_succ (by omega)]
      exact ⟨l.length - (k + 1), by omega, _, _, rfl, trivial, k + 1, rfl, rfl, by omega, hi⟩
  · intro hge
    have : k = l.length := by omega
    subst this
    rw [List.drop_length] at hi
    rw [← hi] at hR
    exact hR

theorem c_once {b o : Nat} {ty : TypeId} {C : List Value} {v : Value} {l : List (List UInt8)} {t : List UInt8} (ho : o < C.length) (hC : C.getD o undef = v) (hg : Grow Ty.string 1 v l.length (l.map str) hp) (hl : l.length ≤ 1073741824)
    (hS : Sat g w ((b, .cells C.toArray ty) :: (hp ++ H)))
    (hR : ∀ v' hp' w', Grow Ty.string 1 v' (onceS l t).1.length ((onceS l t).1.map str) hp' → Sat g w' ((b, .cells (C.set o v').toArray ty) :: (hp' ++ H)) → R (.returned (i64 (((onceS l t).2 : Nat) : Int))) w') : Tr P F.code_once [ptr b o, str t] w R := by
  apply t_code_once
  unfold d_code_once
  try simp only [↓E1, ↓E2, ↓E3]
  rw [hS.ld0 o _ ho, hC]
  try simp only [↓E2]
  refine c_indexW (l := l) hg.slice (by omega) (fun j x K hx hK => hg.rdS hS (fun x hx => by simp [hx]) hx hK) ?_
  try simp only [↓E1, ↓E2, ↓E3]
  cases hix : idxT t l 0 with
  | some k =>
    have ho1 : onceS l t = (l, k) := by unfold onceS; rw [hix]
    rw [ho1] at hR
    rw [cnd_dec]
    constructor
    · intro _
      refine hR v hp w hg ?_
      have : C.set o v = C := by
        apply List.ext_getElem?
        intro i
        rw [List.getElem?_set]
        split
        · rename_i e
          subst e
          rw [← hC, List.getD_eq_getElem?_getD, List.getElem?_eq_getElem ho]
          rfl
        · rfl
      rw [this]
      exact hS
    · intro h
      exact absurd (Int.natCast_nonneg k) h
  | none =>
    have ho1 : onceS l t = (l ++ [t], l.length) := by unfold onceS; rw [hix]
    rw [ho1] at hR
    rw [cnd_dec]
    constructor
    · intro h; simp [idxI] at h
    intro _
    rw [hS.ld0 o _ ho, hC]
    refine hS.bs (cs := [str t]) rfl fun b19 w2 h2 => ?_
    have h3 : Sat g w2 ((b19, .cells [str t].toArray 9) :: (hp ++ ((b, .cells C.toArray ty) :: H))) := h2.perm (.cons _ List.perm_middle.symm)
    refine h3.ap1 (m := 1) hg rfl rfl rfl (by omega) (by omega) fun v' hp' w4 hg4 h4 => ?_
    have h5 : Sat g w4 ((b, .cells C.toArray ty) :: (hp' ++ H)) := h4.perm List.perm_middle
    have hv : v'.cells = #[v'] ∧ one v' = true := by obtain ⟨a, c, rfl⟩ := hg4.slice; exact ⟨rfl, rfl⟩
    try simp only [↓E1, ↓E2, ↓E3]
    refine st_one h5 hv.1 hv.2 ho fun w6 h6 => ?_
    try simp only [↓E1, ↓E2, ↓E3]
    rw [h6.ld0 o _ (by simpa using ho)]
    have hgd : (C.set o v').getD o undef = v' := by
      rw [List.getD_eq_getElem?_getD, List.getElem?_set_self ho]
      rfl
    rw [hgd]
    obtain ⟨a, c, rfl⟩ := hg4.slice
    try simp only [↓E1, ↓E2, ↓E3]
    have e : IntKind.i64.wrap (((l.length + 1 : Nat) : Int) - 1) = ((l.length : Nat) : Int) := by
      rw [wrap64_of (by omega) (by omega)]; omega
    rw [e]
    refine hR _ hp' w6 ?_ h6
    simpa using hg4

theorem once_len (l : List (List UInt8)) (t : List UInt8) : (onceS l t).1.length ≤ l.length + 1 := by
  unfold onceS
  split <;> simp

theorem c_onceL {sel : List UInt8} {b : Nat} {m : MK} {t : List UInt8} (hM : MR g sel b m hp) (ht : tot m ≤ 1073741824) (hS : Sat g w (hp ++ H))
    (hR : ∀ hp' w', MR g sel b { m with lits := (onceS m.lits t).1 } hp' → Sat g w' (hp' ++ H) → R (.returned (i64 (((onceS m.lits t).2 : Nat) : Int))) w') : Tr P F.code_once [ptr b 2, str t] w R := by
  obtain ⟨vU, cU, hU, hI, vL, hL, vN, hN, vS, hSe, vX, hur, hgU, hgL, hgN, hgS, hX, rfl⟩ := id hM
  have h1 : Sat g w ((b, mkO sel vU vL vN vS vX) :: ((hU ++ hI) ++ (hL ++ ((hN ++ hSe) ++ H)))) := by simpa using hS
  refine c_once (o := 2) (C := [str sel, vU, vL, vN, vS, vX]) (l := m.lits) (by simp) rfl hgL (by unfold tot at ht; omega) h1.pull1 fun v' hp' w' hg' h' => ?_
  refine hR ((b, mkO sel vU v' vN vS vX) :: (hU ++ (hI ++ (hp' ++ (hN ++ hSe))))) w' ⟨vU, cU, hU, hI, v', hp', vN, hN, vS, hSe, vX, hur, hgU, hg', hgN, hgS, hX, rfl⟩ ?_
  simpa using Sat.pull1 (A := hp') (hp := hU ++ hI) h'

theorem c_onceN {sel : List UInt8} {b : Nat} {m : MK} {t : List UInt8} (hM : MR g sel b m hp) (ht : tot m ≤ 1073741824) (hS : Sat g w (hp ++ H))
    (hR : ∀ hp' w', MR g sel b { m with names := (onceS m.names t).1 } hp' → Sat g w' (hp' ++ H) → R (.returned (i64 (((onceS m.names t).2 : Nat) : Int))) w') : Tr P F.code_once [ptr b 3, str t] w R := by
  obtain ⟨vU, cU, hU, hI, vL, hL, vN, hN, vS, hSe, vX, hur, hgU, hgL, hgN, hgS, hX, rfl⟩ := id hM
  have h1 : Sat g w ((b, mkO sel vU vL vN vS vX) :: ((hU ++ (hI ++ hL)) ++ (hN ++ (hSe ++ H)))) := by simpa using hS
  refine c_once (o := 3) (C := [str sel, vU, vL, vN, vS, vX]) (l := m.names) (by simp) rfl hgN (by unfold tot at ht; omega) h1.pull1 fun v' hp' w' hg' h' => ?_
  refine hR ((b, mkO sel vU vL v' vS vX) :: (hU ++ (hI ++ (hL ++ (hp' ++ hSe))))) w' ⟨vU, cU, hU, hI, vL, hL, v', hp', vS, hSe, vX, hur, hgU, hgL, hg', hgS, hX, rfl⟩ ?_
  simpa using Sat.pull1 (A := hp') (hp := hU ++ (hI ++ hL)) h'

theorem c_onceS {sel : List UInt8} {b : Nat} {m : MK} {t : List UInt8} (hM : MR g sel b m hp) (ht : tot m ≤ 1073741824) (hS : Sat g w (hp ++ H))
    (hR : ∀ hp' w', MR g sel b { m with sels := (onceS m.sels t).1 } hp' → Sat g w' (hp' ++ H) → R (.returned (i64 (((onceS m.sels t).2 : Nat) : Int))) w') : Tr P F.code_once [ptr b 4, str t] w R := by
  obtain ⟨vU, cU, hU, hI, vL, hL, vN, hN, vS, hSe, vX, hur, hgU, hgL, hgN, hgS, hX, rfl⟩ := id hM
  have h1 : Sat g w ((b, mkO sel vU vL vN vS vX) :: ((hU ++ (hI ++ (hL ++ hN))) ++ (hSe ++ H))) := by simpa using hS
  refine c_once (o := 4) (C := [str sel, vU, vL, vN, vS, vX]) (l := m.sels) (by simp) rfl hgS (by unfold tot at ht; omega) h1.pull1 fun v' hp' w' hg' h' => ?_
  refine hR ((b, mkO sel vU vL vN v' vX) :: (hU ++ (hI ++ (hL ++ (hN ++ hp'))))) w' ⟨vU, cU, hU, hI, vL, hL, vN, hN, v', hp', vX, hur, hgU, hgL, hgN, hg', hX, rfl⟩ ?_
  simpa using Sat.pull1 (A := hp') (hp := hU ++ (hI ++ (hL ++ hN))) h'

theorem c_use {sel : List UInt8} {b : Nat} {m : MK} (hM : MR g sel b m hp) (hne : m.uses ≠ []) (hS : Sat g w (hp ++ H))
    (hR : ∀ hp' w', MR g sel b (popU m) hp' → Sat g w' (hp' ++ H) → R (.returned (.agg (useC (useH m)).toArray)) w') : Tr P F.code_maker_use [ptr b 0] w R := by
  apply t_code_maker_use
  unfold d_code_maker_use
  obtain ⟨vU, cU, hU, hI, vL, hL, vN, hN, vS, hSe, vX, hur, hgU, hgL, hgN, hgS, hX, rfl⟩ := id hM
  obtain ⟨u0, us, hus⟩ : ∃ u0 us, m.uses = u0 :: us := by
    cases h : m.uses with
    | nil => exact absurd h hne
    | cons u0 us => exact ⟨u0, us, rfl⟩
  have huh : useH m = u0 := by unfold useH; rw [hus]; rfl
  rw [hus] at hX
  rw [huh] at hR
  refine hS.al fun b2 w1 h1 => ?_
  have h1 : Sat g w1 ((b2, ubx use0) :: (b, mkO sel vU vL vN vS vX) :: ((hU ++ (hI ++ (hL ++ (hN ++ hSe)))) ++ H)) := h1
  obtain ⟨xa, xc, rfl, hxc, _, _⟩ := id hX
  try simp only [↓E1, ↓E2, ↓E3, Nat.reduceAdd]
  rw [h1.ld1 5 _ (by simp)]
  try simp only [↓E1, ↓E2, ↓E3, Nat.reduceAdd]
  refine Sl.at (j := 0) hX h1 (by simp) (by decide) fun bx ox hcell => ?_
  have hcell : ∀ q x, (useC u0)[q]? = some x → g.cell? bx (ox + q) = some x := by
    intro q x hx
    refine hcell q x ?_
    simp only [Nat.zero_mul, List.drop_zero, useZ, List.map_cons, List.flatten_cons]
    rw [List.take_left' (by rfl)]
    exact hx
  refine h1.ldnI (vs := useC u0) hcell ?_
  refine h1.al fun b3 w2 h2 => ?_
  have h2 : Sat g w2 ((b3, ubx use0) :: (b2, ubx use0) :: (b, mkO sel vU vL vN vS (.slice xa (u0 :: us).length xc)) :: ((hU ++ (hI ++ (hL ++ (hN ++ hSe)))) ++ H)) := h2
  refine st_all (c := useC u0) (c2 := useC use0) h2 rfl rfl rfl fun w3 h3 => ?_
  try simp only [↓E1, ↓E2, ↓E3, Nat.reduceAdd]
  rw [h3.ld2 5 _ (by simp)]
  try simp only [↓E1, ↓E2, ↓E3, Nat.reduceAdd]
  refine slL_lo _ _ _ _ _ _ (by decide) (by simp; omega) hxc ?_
  have hf := Sl.from1 (sz := 6) hX (by simp) (by decide)
  have hf' : Sl g 6 (Value.slice (if (xc : Int) = 1 then xa else xa.map (·.add ((1 : Int).toNat * 6))) ((u0 :: us).length - (1 : Int).toNat) (xc - (1 : Int).toNat)) us.length (useZ us) := by
    have e : (useZ (u0 :: us)).drop 6 = useZ us := by
      simp only [useZ, List.map_cons, List.flatten_cons]
      exact List.drop_left' rfl
    rw [e] at hf
    exact hf
  obtain ⟨v9, hv9⟩ : ∃ v9, v9 = Value.slice (if (xc : Int) = 1 then xa else xa.map (·.add ((1 : Int).toNat * 6))) ((u0 :: us).length - (1 : Int).toNat) (xc - (1 : Int).toNat) := ⟨_, rfl⟩
  rw [← hv9] at hf' ⊢
  try simp only [↓E1, ↓E2, ↓E3, Nat.reduceAdd]
  have h4 := Sat.front (A := [(b3, _), (b2, _)]) h3
  refine st_one h4 (by rw [hv9]; rfl) (by rw [hv9]; rfl) (by simp) fun w5 h5 => ?_
  have h6 := h5.swap2
  refine h6.ldn0 (c := useC u0) rfl ?_
  have h7 := Sat.front (A := [(b3, _), (b, _)]) h6
  refine st_all (c := useC u0) (c2 := useC use0) h7 rfl rfl rfl fun w8 h8 => ?_
  refine h8.ldn0 (c := useC u0) rfl ?_
  refine hR ((b, mkO sel vU vL vN vS v9) :: (hU ++ (hI ++ (hL ++ (hN ++ hSe))))) w8 ⟨vU, cU, hU, hI, vL, hL, vN, hN, vS, hSe, v9, hur, hgU, hgL, hgN, hgS, ?_, rfl⟩ (by simpa using h8.tail.tail)
  show Sl g 6 v9 (m.uses.tail).length (useZ m.uses.tail)
  rw [hus]
  exact hf'
end Go.Vx
namespace Go.Vx

mutual
/-- How many names a part uses. -/
def nU : Node → Nat
  | .mk k _ _ _ _ ks => (bif Nat.beq k 5 || Nat.beq k 6 then 1 else 0) + nUs ks
def nUs : List Node → Nat
  | [] => 0
  | k :: ks => nU k + nUs ks
end

/-- Names have no parts. -/
inductive OkV : Node → Prop
  | mk {k p n : Nat} {t : List UInt8} {ns : List (List UInt8)} {ks : List Node} (h : k = 5 → ks = []) (h2 : ∀ x ∈ ks, OkV x) : OkV (.mk k t p n ns ks)
theorem okV_of : ∀ n : Node, (OkE n → OkV n) ∧ (OkM n → OkV n) ∧ (OkS n → OkV n) ∧ (LitN n → OkV n) := by
  refine Node.ind fun k t p n ns ks ih => ?_
  have hE : OkE (.mk k t p n ns ks) → OkV (.mk k t p n ns ks) := by
    intro h
    cases h with
    | leaf h => exact .mk (fun _ => rfl) (by simp)
    | list h => exact .mk (by omega) fun x hx => (ih x hx).2.2.2 (h x hx)
    | var => exact .mk (fun _ => rfl) (by simp)
    | set h => exact .mk (by omega) fun x hx => (ih x hx).1 (by rw [List.mem_singleton.1 hx]; exact h)
    | send h1 h2 => exact .mk (by omega) fun x hx => (ih x hx).1 (by
        rcases List.mem_cons.1 hx with e | hx
        · rw [e]; exact h1
        · exact h2 x hx)
    | casc h1 _ h3 =>
      refine .mk (by omega) fun x hx => ?_
      rcases List.mem_cons.1 hx with e | hx'
      · exact (ih x hx).1 (by rw [e]; exact h1)
      · exact (ih x hx).2.1 (h3 x hx')
    | blk _ h2 => exact .mk (by omega) fun x hx => (ih x hx).2.2.1 (h2 x hx)
  refine ⟨hE, fun h => ?_, fun h => ?_, fun h => ?_⟩
  · cases h with
    | mk h => exact .mk (by omega) fun x hx => (ih x hx).1 (h x hx)
  · cases h with
    | expr h => exact hE h
    | ret h => exact .mk (by omega) fun x hx => (ih x hx).1 (by rw [List.mem_singleton.1 hx]; exact h)
  · cases h with
    | leaf h => exact .mk (fun _ => rfl) (by simp)
    | list h => exact .mk (by omega) fun x hx => (ih x hx).2.2.2 (h x hx)

theorem partsU_len {slots : List (List UInt8)} {ks : List Node} (ih : ∀ x ∈ ks, ∀ fs to acc acc', partU slots x fs to acc = .ok acc' → acc'.length = acc.length + nU x) : ∀ fs rcv first acc acc', partsU slots ks fs rcv first acc = .ok acc' → acc'.length = acc.length + nUs ks := by
  induction ks with
  | nil =>
    intro fs rcv first acc acc' h
    simp only [partsU] at h
    injection h with h
    subst h
    rfl
  | cons k ks ihk =>
    intro fs rcv first acc acc' h
    simp only [partsU] at h
    cases h1 : partU slots k fs (rcv && first) acc with
    | error p => rw [h1] at h; simp at h
    | ok a =>
      rw [h1] at h
      have h3 := ih k (by simp) _ _ _ _ h1
      have h4 := ihk (fun x hx => ih x (by simp [hx])) _ _ _ _ _ h
      simp only [nUs]
      omega

theorem partU_len {slots : List (List UInt8)} : ∀ n : Node, OkV n → ∀ fs to acc acc', partU slots n fs to acc = .ok acc' → acc'.length = acc.length + nU n := by
  refine Node.ind fun k t p n ns ks ih => ?_
  intro hv fs to acc acc' h
  cases hv with
  | mk h5k hks =>
  have ih' : ∀ x ∈ ks, ∀ fs to acc acc', partU slots x fs to acc = .ok acc' → acc'.length = acc.length + nU x := fun x hx => ih x hx (hks x hx)
  simp only [partU] at h
  simp only [nU]
  cases h5 : Nat.beq k 5
  · rw [h5] at h
    simp only [cond_false, Bool.false_or] at h ⊢
    cases h6 : Nat.beq k 6
    · rw [h6] at h
      simp only [cond_false] at h ⊢
      cases h10 : Nat.beq k 10
      · rw [h10] at h
        simp only [cond_false] at h
        have := partsU_len ih' _ _ _ _ _ h
        omega
      · rw [h10] at h
        simp only [cond_true] at h
        cases hno : namesOK [] ns
        · rw [hno] at h
          simp at h
        · rw [hno] at h
          simp only [cond_true] at h
          have := partsU_len ih' _ _ _ _ _ h
          omega
    · rw [h6] at h
      simp only [cond_true] at h ⊢
      rcases cond_or h with ⟨_, h⟩ | ⟨_, h⟩
      · simp at h
      · have := partsU_len ih' _ _ _ _ _ h
        simp at this
        omega
  · rw [h5] at h
    have hk0 := h5k (Nat.eq_of_beq_eq_true h5)
    subst hk0
    simp only [cond_true, Bool.true_or, nUs] at h ⊢
    rcases cond_or h with ⟨_, h⟩ | ⟨_, h⟩
    · simp at h
    · injection h with h
      subst h
      simp

theorem resolve_len {slots : List (List UInt8)} {k p n : Nat} {t : List UInt8} {ns : List (List UInt8)} {ks : List Node} {l : List Use} (hv : ∀ x ∈ ks, OkV x) (h : resolveS slots (.mk k t p n ns ks) = .ok l) : l.length = nUs ks := by
  simp only [resolveS] at h
  rcases cond_or h with ⟨_, h⟩ | ⟨_, h⟩
  · have := partsU_len (fun x hx => partU_len x (hv x hx)) _ _ _ _ _ h
    simpa using this
  · simp at h

/-! ### How a maker grows -/
/-- At most so many names used, units stay, at most so much more. -/
structure Le (m r : MK) (k s : Nat) : Prop where
  uses : m.uses.length ≤ r.uses.length + k
  units : m.units.length ≤ r.units.length
  tot : tot r ≤ tot m + s
theorem Le.refl (m : MK) : Le m m 0 0 := ⟨by simp, Nat.le_refl _, Nat.le_refl _⟩
theorem Le.trans {m r q : MK} {k s k' s' : Nat} (h : Le m r k s) (h' : Le r q k' s') : Le m q (k + k') (s + s') :=
  ⟨by have := h.uses; have := h'.uses; omega, Nat.le_trans h.units h'.units, by have := h.tot; have := h'.tot; omega⟩
theorem Le.weak {m r : MK} {k s k' s' : Nat} (h : Le m r k s) (hk : k ≤ k') (hs : s ≤ s') : Le m r k' s' := ⟨by have := h.uses; omega, h.units, by have := h.tot; omega⟩

theorem modU_len (l : List CU) (u : Nat) (i : Ins) : (modU l u i).length = l.length := by
  induction l generalizing u with
  | nil => rfl
  | cons y l ih => cases u <;> simp [modU, ih]
theorem insT_mod (l : List CU) (u : Nat) (i : Ins) : insT (modU l u i) ≤ insT l + 1 := by
  induction l generalizing u with
  | nil => simp [modU, insT]
  | cons y l ih =>
    cases u with
    | zero => simp only [modU, insT, List.length_append, List.length_cons, List.length_nil]; omega
    | succ u => have := ih u; simp only [modU, insT]; omega
theorem insT_app (a b : List CU) : insT (a ++ b) = insT a + insT b := by
  induction a with
  | nil => simp [insT]
  | cons x a ih => simp only [List.cons_append, insT, ih]; omega
theorem le_add (m : MK) (u : Nat) (i : Ins) : Le m (addI m u i) 0 1 := by
  refine ⟨Nat.le_refl _, ?_, ?_⟩
  · show m.units.length ≤ (modU m.units u i).length
    rw [modU_len]
    exact Nat.le_refl _
  · have h1 := insT_mod m.units u i
    have h2 := modU_len m.units u i
    show insT (modU m.units u i) + (modU m.units u i).length + m.lits.length + m.names.length + m.sels.length ≤ insT m.units + m.units.length + m.lits.length + m.names.length + m.sels.length + 1
    omega
theorem le_pop (m : MK) : Le m (popU m) 1 0 := by
  refine ⟨?_, Nat.le_refl _, Nat.le_refl _⟩
  show m.uses.length ≤ m.uses.tail.length + 1
  rw [List.length_tail]
  omega
theorem once_le (l : List (List UInt8)) (t : List UInt8) : (onceS l t).1.length ≤ l.length + 1 := by
  unfold onceS
  split <;> simp
theorem le_lit (m : MK) (t : List UInt8) : Le m { m with lits := (onceS m.lits t).1 } 0 1 := by
  have := once_le m.lits t
  refine ⟨Nat.le_refl _, Nat.le_refl _, ?_⟩
  simp only [tot]
  omega
theorem le_name (m : MK) (t : List UInt8) : Le m { m with names := (onceS m.names t).1 } 0 1 := by
  have := once_le m.names t
  refine ⟨Nat.le_refl _, Nat.le_refl _, ?_⟩
  simp only [tot]
  omega
theorem le_sel (m : MK) (t : List UInt8) : Le m { m with sels := (onceS m.sels t).1 } 0 1 := by
  have := once_le m.sels t
  refine ⟨Nat.le_refl _, Nat.le_refl _, ?_⟩
  simp only [tot]
  omega
theorem le_push (m : MK) (a n : Nat) : Le m { m with units := m.units ++ [⟨a, n, []⟩] } 0 1 := by
  refine ⟨Nat.le_refl _, by simp, ?_⟩
  simp only [tot, insT_app, insT, List.length_append, List.length_cons, List.length_nil]
  omega
theorem le_nameC (u : Nat) (m : MK) : Le m (nameC u m) 1 2 := by
  unfold nameC
  simp only []
  have h0 := le_pop m
  cases (useH m).kind == 2
  · cases (useH m).kind == 3
    · cases (useH m).kind == 4
      · cases (useH m).kind == 5
        · exact (h0.trans (le_add _ _ _)).weak (by omega) (by omega)
        · exact (h0.trans ((le_name _ _).trans (le_add _ _ _))).weak (by omega) (by omega)
      · exact (h0.trans (le_add _ _ _)).weak (by omega) (by omega)
    · exact (h0.trans (le_add _ _ _)).weak (by omega) (by omega)
  · exact (h0.trans (le_add _ _ _)).weak (by omega) (by omega)
theorem le_send (u : Nat) (sup : Bool) (sel : List UInt8) (n : Nat) (m : MK) : Le m (sendC u sup sel n m) 0 2 := (le_sel m sel).trans (le_add _ _ _)

def LawP (n : Node) : Prop := ∀ u m, Le m (partC n u m) (nU n) (16 * msr n - 4)

theorem le_parts {ks : List Node} (ih : ∀ x ∈ ks, LawP x) : ∀ u m, Le m (partsC ks u m) (nUs ks) (16 * msrs ks) := by
  induction ks with
  | nil => intro u m; exact Le.refl m
  | cons k ks ihk =>
    intro u m
    have hp := msr_pos k
    simp only [partsC, nUs, msrs]
    exact ((ih k (by simp) u m).trans (ihk (fun x hx => ih x (by simp [hx])) u _)).weak (Nat.le_refl _) (by omega)
theorem le_head {ks : List Node} (ih : ∀ x ∈ ks, LawP x) (u : Nat) (m : MK) : Le m (headC ks u m) (nUs ks) (16 * msrs ks) := by
  cases ks with
  | nil => exact Le.refl m
  | cons k ks =>
    have hp := msr_pos k
    simp only [headC, nUs, msrs]
    exact (ih k (by simp) u m).weak (by omega) (by omega)

/-- Of a part, and of what it holds. -/
def LawQ (n : Node) : Prop := LawP n ∧ (∀ u sup m, Le m (msgC n u sup m) (nUs n.kids) (16 * msrs n.kids + 2)) ∧ (∀ u m, Le m (retC n u m) (nUs n.kids) (16 * msrs n.kids))
theorem nUs_kids (n : Node) : nUs n.kids ≤ nU n := by
  obtain ⟨k, t, p, c, ns, ks⟩ := n
  simp only [nU, Node.kids]
  omega
theorem msrs_kids (n : Node) : msrs n.kids + 1 ≤ msr n := by cases n; simp only [msr, Node.kids]; omega

theorem le_casc {ks : List Node} (ih : ∀ x ∈ ks, LawQ x) : ∀ u sup m, Le m (cascC ks u sup m) (nUs ks) (16 * msrs ks) := by
  induction ks with
  | nil => intro u sup m; exact Le.refl m
  | cons k ks ihk =>
    intro u sup m
    have h1 := fun m => (ih k (by simp)).2.1 u sup m
    have h2 := nUs_kids k
    have h3 := msrs_kids k
    simp only [cascC, nUs, msrs]
    cases ks.isEmpty
    · simp only [cond_false]
      have h4 := ihk (fun x hx => ih x (by simp [hx])) u sup
      exact ((le_add m u ⟨11, 0, 0⟩).trans ((h1 _).trans ((le_add _ u ⟨12, 0, 0⟩).trans (h4 _)))).weak (by omega) (by omega)
    · exact (h1 m).weak (by omega) (by omega)

theorem le_stmts {ks : List Node} (ih : ∀ x ∈ ks, LawQ x) : ∀ u first m, Le m (stmtsC ks u first m).1 (nUs ks) (16 * msrs ks) := by
  induction ks with
  | nil => intro u first m; exact Le.refl m
  | cons k ks ihk =>
    intro u first m
    have h2 := nUs_kids k
    have h3 := msrs_kids k
    have h0 : Le m (bif first then m else addI m u ⟨12, 0, 0⟩) 0 1 := by
      cases first
      · exact le_add _ _ _
      · exact (Le.refl m).weak (Nat.le_refl _) (by omega)
    simp only [stmtsC, nUs, msrs, List.length_cons]
    generalize (bif first then m else addI m u ⟨12, 0, 0⟩) = m1 at h0
    cases Nat.beq k.kind 11
    · simp only [cond_false]
      exact (h0.trans (((ih k (by simp)).1 u m1).trans (ihk (fun x hx => ih x (by simp [hx])) u false _))).weak (by omega) (by omega)
    · simp only [cond_true]
      exact (h0.trans (((ih k (by simp)).2.2 u m1).trans (le_add _ _ _))).weak (by omega) (by omega)

theorem le_unitOf {k n names kids : Nat} {t : List UInt8} {st : Nat → MK → MK × Bool} {a s : Nat} (h : ∀ u m, Le m (st u m).1 a s) (m : MK) : Le m (unitOf k t n names kids st m) a (s + 4) := by
  unfold unitOf
  simp only []
  have h1 := (le_push m n names).trans (h m.units.length { m with units := m.units ++ [⟨n, names, []⟩] })
  generalize st m.units.length { m with units := m.units ++ [⟨n, names, []⟩] } = r at h1
  have hc : ∀ (q : Bool) (x : MK) (u : Nat) (i : Ins), Le x (bif q then x else addI x u i) 0 1 := by
    intro q x u i
    cases q
    · exact le_add _ _ _
    · exact (Le.refl x).weak (Nat.le_refl _) (by omega)
  have hc' : ∀ (q : Bool) (x : MK) (u : Nat) (i : Ins), Le x (bif q then addI x u i else x) 0 1 := by
    intro q x u i
    cases q
    · exact (Le.refl x).weak (Nat.le_refl _) (by omega)
    · exact le_add _ _ _
  cases r.2
  · simp only [cond_false]
    cases Nat.beq k 12 && !t.isEmpty
    · simp only [cond_false]
      exact (h1.trans ((hc' _ _ _ _).trans (le_add _ _ _))).weak (by omega) (by omega)
    · simp only [cond_true]
      exact (h1.trans ((hc _ _ _ _).trans ((le_add _ _ _).trans (le_add _ _ _)))).weak (by omega) (by omega)
  · simp only [cond_true]
    exact h1.weak (by omega) (by omega)

theorem le_part : ∀ n, LawQ n := by
  refine Node.ind fun k t p n ns ks ih => ?_
  have ihP : ∀ x ∈ ks, LawP x := fun x hx => (ih x hx).1
  refine ⟨fun u m => ?_, fun u sup m => ?_, fun u m => ?_⟩
  · simp only [partC, nU, msr]
    have hlen := len_msrs ks
    rcases hb : (Nat.beq k 1 || (Nat.beq k 2 || (Nat.beq k 3 || Nat.beq k 4))) with _ | _
    · simp only [cond_false]
      cases h5 : Nat.beq k 5
      · simp only [cond_false, Bool.false_or]
        cases h6 : Nat.beq k 6
        · simp only [cond_false]
          cases h7 : Nat.beq k 7
          · simp only [cond_false]
            cases h8 : Nat.beq k 8
            · simp only [cond_false]
              cases h10 : Nat.beq k 10
              · simp only [cond_false]
                exact (Le.refl m).weak (by omega) (by omega)
              · simp only [cond_true]
                exact ((le_add m u _).trans (le_unitOf (fun u m => le_stmts ih u true m) _)).weak (by omega) (by omega)
            · simp only [cond_true]
              cases ks with
              | nil => exact (Le.refl m).weak (by omega) (by omega)
              | cons r ms =>
                have hp := msr_pos r
                simp only [cascT, nUs, msrs]
                exact ((ihP r (by simp) u m).trans (le_casc (fun x hx => ih x (by simp [hx])) u _ _)).weak (by omega) (by omega)
          · simp only [cond_true]
            exact ((le_parts ihP u m).trans (le_send _ _ _ _ _)).weak (by omega) (by omega)
        · simp only [cond_true]
          have h := (le_pop m).trans (le_head ihP u (popU m))
          cases (useH m).kind == 3
          · exact (h.trans (le_add _ _ _)).weak (by omega) (by omega)
          · exact (h.trans (le_add _ _ _)).weak (by omega) (by omega)
      · simp only [cond_true, Bool.true_or]
        exact (le_nameC u m).weak (by omega) (by omega)
    · simp only [cond_true]
      exact ((le_lit m _).trans (le_add _ _ _)).weak (by omega) (by omega)
  · simp only [msgC, Node.kids]
    exact ((le_parts ihP u m).trans (le_send _ _ _ _ _)).weak (by omega) (by omega)
  · simp only [retC, Node.kids]
    exact le_head ihP u m
end Go.Vx
