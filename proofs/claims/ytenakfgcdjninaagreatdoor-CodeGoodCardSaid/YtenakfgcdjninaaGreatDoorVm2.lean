/- Part 2 of the walk: a calculus of conditions over the model, and contracts of the functions of the program, in their plain form. No claim stands here. -/
import Derived.Test.YtenakfgcdjninaaGreatDoorVm1
import Derived.Defers
import Derived.Recover
import Derived.Test.YtenakfgcdjninaaGreatDoorProg
set_option linter.unusedVariables false
set_option linter.unusedSimpArgs false
set_option linter.unusedSectionVars false
set_option linter.unnecessarySimpa false
namespace Go.Vx
open Go

inductive OK where
  | pure
  | read
  | eff
  | no

def okOf : Op → OK
  | .move _ | .assign _ | .pick .. | .build .. | .nilCheck _ | .binOp .. | .unOp .. | .makeInterface .. | .makeFunc .. | .slice .. | .fieldAddr .. | .field .. | .indexAddr .. | .index .. | .extract .. | .typeAssert .. => .pure
  | .load .. => .read
  | .call c => match c.callee with
    | .builtin .len | .builtin .cap | .builtin .max | .builtin .min => .pure
    | _ => .eff
  | .convert .. => .eff
  | .alloc _ | .box .. | .buildSlice .. | .store .. | .makeSlice .. | .range .. | .next .. | .panic _ => .eff
  | _ => .no

def looksOps : List Operand → List Nat
  | [] => []
  | .tmp t :: l => t :: looksOps l
  | _ :: l => looksOps l

/-- The slots that an operation looks at. -/
def looks (ops : Array Oper) (o : Oper) : List Nat :=
  (match o.guard with
    | some (j, _) => (match (ops[j]?).bind (·.dst) with | some d => [d] | none => [])
    | none => []) ++ looksOps o.op.operands.toList

def predsE : List Edge → List Nat
  | [] => []
  | e :: l => match Region.binds .any e with
    | true => e.on :: predsE l
    | false => predsE l

def maskOf (acc : List Nat) : List Nat → Nat
  | [] => 0
  | p :: l => (1 <<< p ||| acc.getD p 0) ||| maskOf acc l

/-- Of each operation: those that must come before it. -/
def ancGo : List Oper → List Nat → List Nat
  | [], acc => acc
  | o :: l, acc => ancGo l (acc ++ [maskOf acc (predsE o.after.toList)])

def isEffO (ops : Array Oper) (i : Nat) : Bool :=
  match ops[i]? with
  | some o => (match okOf o.op with | .eff => true | _ => false)
  | none => false

def readyB (done : Nat) : List Nat → Bool
  | [] => true
  | p :: l => match done.testBit p with | true => readyB done l | false => false

def firstR (ops : Array Oper) (A : List Nat) (done : Nat) (eff : Bool) : List Nat → Option Nat
  | [] => none
  | i :: l =>
    match done.testBit i with
    | true => firstR ops A done eff l
    | false => match (eff || !isEffO ops i) && Nat.beq (A.getD i 0 &&& done) (A.getD i 0) with
        | true => some i
        | false => firstR ops A done eff l

def ordGo (ops : Array Oper) (A : List Nat) : Nat → Nat → List Nat
  | 0, _ => []
  | f + 1, done => match firstR ops A done false (List.range ops.size) with
    | some i => i :: ordGo ops A f (done ||| 1 <<< i)
    | none => match firstR ops A done true (List.range ops.size) with
      | some i => i :: ordGo ops A f (done ||| 1 <<< i)
      | none => []

/-- One comes before another one: and all that comes before it. -/
def addGo (m y : Nat) : List Nat → Nat → List Nat
  | [], _ => []
  | a :: l, j => (match Nat.beq j y || a.testBit y with | true => a ||| m | false => a) :: addGo m y l (j + 1)
def addA (A : List Nat) (x y : Nat) : List Nat := addGo (1 <<< x ||| A.getD x 0) y A 0

/-- The effects, two by two. -/
def pairsGo : List Nat → List (Nat × Nat)
  | [] => []
  | i :: l => l.map (fun j => (i, j)) ++ pairsGo l
def effPairs (ops : Array Oper) : List (Nat × Nat) := pairsGo ((List.range ops.size).filter (isEffO ops))

def dstO (ops : Array Oper) (i : Nat) : Option Nat := (ops[i]?).bind (·.dst)
def looksO (ops : Array Oper) (i : Nat) : List Nat := match ops[i]? with | some o => looks ops o | none => []

def hitB (d : Option Nat) (l : List Nat) : Bool := match d with | some d => l.contains d | none => false

/-- i comes before j in the order that is gone through. -/
def okPair (ops : Array Oper) (A : List Nat) (i j : Nat) : Bool :=
  let pij := (A.getD j 0).testBit i
  !(A.getD i 0).testBit j && (!isEffO ops i || pij) && (!hitB (dstO ops i) (looksO ops j) || pij) && (!hitB (dstO ops j) (looksO ops i) || pij) &&
    (match dstO ops i, dstO ops j with | some d, some d' => !Nat.beq d d' | _, _ => true) && !Nat.beq i j

def pairsB (ops : Array Oper) (A : List Nat) : List Nat → Bool
  | [] => true
  | i :: l => l.all (okPair ops A i) && pairsB ops A l

def notNo (ops : Array Oper) (i : Nat) : Bool := match ops[i]? with | some o => (match okOf o.op with | .no => false | _ => true) | none => false

def predsLt : List Oper → Nat → Bool
  | [], _ => true
  | o :: l, i => (predsE o.after.toList).all (fun p => Nat.blt p i) && predsLt l (i + 1)

def chk (ops : Array Oper) (A ord : List Nat) : Bool :=
  pairsB ops A ord && ((List.range ops.size).all ord.contains && (ord.all (fun i => Nat.blt i ops.size && (notNo ops i && !(A.getD i 0).testBit i))))

/-- A load that is to be looked at again: its number, is it of several cells, where, what. -/
structure Pd where
  i : Nat
  agg : Bool
  a : Value
  x : Value

def rkP (p : Pd) (w : World) : Prop :=
  match p.agg with
  | false => ∃ ad, p.a = .pointer (some ad) ∧ w.cell? ad = some p.x
  | true => ∃ ad vs, p.a = .pointer (some ad) ∧ p.x = .agg vs ∧ cellsAt w ad vs.toList

/-- It holds still what was read. -/
def rk (agg : Bool) (a x : Value) (p : Prop) (w : World) : Prop := rkP ⟨0, agg, a, x⟩ w ∧ p

def rks (A : List Nat) (i : Nat) (w : World) (p : Prop) : List Pd → Prop
  | [] => p
  | q :: l => match (A.getD i 0).testBit q.i with
    | true => rks A i w p l
    | false => rk q.agg q.a q.x (rks A i w p l) w

section
variable (P : Program) (T : Tab) (n : Nat)

def pdOf (o : Oper) (e : Env) (i : Nat) (x : EV) (pd : List Pd) : List Pd :=
  match o.op with
  | .load t a => match T.get t, va e a with
    | some ti, some v => ⟨i, ti.kind.agg, v, x.val⟩ :: pd
    | _, _ => pd
  | _ => pd

def canGo (ops : Array Oper) (A : List Nat) (o : Oper) (i : Nat) (s : S) (pd : List Pd) (next : S → List Pd → World → Prop) (kp : List PanicEntry → World → Prop) (w : World) : Prop :=
  let e := keep s.e (looks ops o)
  match okOf o.op with
  | .pure => vcOp P T e o (fun x w' => putS n s o.dst x (fun s' w' => next s' pd w') w') (fun _ _ => False) w
  | .read => vcOp P T e o (fun x w' => putS n s o.dst x (fun s' w' => next s' (pdOf T o e i x pd) w') w') (fun _ _ => False) w
  | .eff => vcOp P T e o (fun x w' => rks A i w' (putS n s o.dst x (fun s' w' => next s' pd w') w') pd) kp w
  | .no => False

def vcCan (ops : Array Oper) (A : List Nat) : List Nat → S → List Pd → (S → World → Prop) → (List PanicEntry → World → Prop) → World → Prop
  | [], s, _, kn, _, w => kn s w
  | i :: rest, s, pd, kn, kp, w =>
    match ops[i]? with
    | none => False
    | some o =>
      let go : S → Prop := fun s => canGo P T n ops A o i s pd (fun s' pd' w' => vcCan ops A rest s' pd' kn kp w') kp w
      let skip : S → Prop := fun s => putS n s o.dst .u (fun s' w' => vcCan ops A rest s' pd kn kp w') w
      match o.guard with
      | none => go s
      | some (j, want) => match (ops[j]?).bind (·.dst) with
        | none => False
        | some d => match s.e.get d with
          | some (.b true) => (match want with | true => go s | false => skip s)
          | some (.b false) => (match want with | true => skip s | false => go s)
          | some .u => skip s
          | some (.v c) => (match want with
            | true => cnd c (go { e := (d, .b true) :: s.e, ds := s.ds }) (skip { e := (d, .b false) :: s.e, ds := s.ds })
            | false => cnd c (skip { e := (d, .b true) :: s.e, ds := s.ds }) (go { e := (d, .b false) :: s.e, ds := s.ds }))
          | none => False

/-- The condition of a region whose order is drawn. -/
def drw (w : World) (p : World → Prop) : Prop := p w.drew

def notBits (m : Nat) : Nat → List Nat
  | 0 => []
  | n + 1 => match m.testBit n with
    | true => notBits m n
    | false => n :: notBits m n

/-- What is known of the slots that a region doesn't write. -/
def base (n : Nat) (ops : Array Oper) (s : S) : S := { e := keep s.e (notBits (writesOps ops.toList) n), ds := s.ds }

/-- Effects that may come in either order: told for both. -/
def vcTree (ops : Array Oper) (s : S) (kn : S → World → Prop) (kp : S → List PanicEntry → World → Prop) (w : World) : List (Nat × Nat) → List Nat → Prop
  | [], A => match chk ops A (ordGo ops A ops.size 0) with
    | true => vcCan P T n ops A (ordGo ops A ops.size 0) s [] kn (kp (base n ops s)) w
    | false => False
  | (x, y) :: ps, A => match (A.getD y 0).testBit x || (A.getD x 0).testBit y with
    | true => vcTree ops s kn kp w ps A
    | false => vcTree ops s kn kp w ps (addA A x y) ∧ vcTree ops s kn kp w ps (addA A y x)

def vcDraw : Draw := fun ops s kn kp w =>
  match predsLt ops.toList 0 with
  | true => drw w fun w' => vcTree P T n ops s kn kp w' (effPairs ops) (ancGo ops.toList [])
  | false => False
end

/-! ### Pure nodes -/
section
variable {P : Program} {T : Tab} {e : Env}

/-- A node that neither looks at the world nor changes it. -/
def PureN (N : (Value → World → Prop) → World → Prop) : Prop := ∀ K w, N K w → ∃ v, K v w ∧ ∀ K' w', K' v w' → N K' w'

theorem pure_pk (c a b : Value) : PureN (pk c a b) := fun K w ⟨t, h1, h2⟩ => ⟨_, h2, fun K' w' h => ⟨t, h1, h⟩⟩
theorem pure_bI (op : BinOp) (k : IntKind) (a b : Value) : PureN (bI op k a b) := fun K w ⟨x, y, h1, h2, h3, h4⟩ => ⟨_, h4, fun K' w' h => ⟨x, y, h1, h2, h3, h⟩⟩
theorem pure_bH (op : BinOp) (k : IntKind) (a b : Value) : PureN (bH op k a b) := fun K w ⟨x, k', y, h1, h2, h3, h4⟩ => ⟨_, h4, fun K' w' h => ⟨x, k', y, h1, h2, h3, h⟩⟩
theorem pure_bS (op : BinOp) (a b : Value) : PureN (bS op a b) := fun K w ⟨x, y, h1, h2, h3, h4⟩ => ⟨_, h4, fun K' w' h => ⟨x, y, h1, h2, h3, h⟩⟩
theorem pure_bB (op : BinOp) (a b : Value) : PureN (bB op a b) := by
  rintro K w ⟨x, y, h1, h2, ⟨h3, h4⟩ | ⟨h3, h4⟩⟩
  · exact ⟨_, h4, fun K' w' h => ⟨x, y, h1, h2, .inl ⟨h3, h⟩⟩⟩
  · exact ⟨_, h4, fun K' w' h => ⟨x, y, h1, h2, .inr ⟨h3, h⟩⟩⟩
theorem pure_bN (op : BinOp) (k : TyK) (a b : Value) : PureN (bN op k a b) := by
  rintro K w ⟨h1, h2, h3, t, h4, ⟨h5, h6⟩ | ⟨h5, h6⟩⟩
  · exact ⟨_, h6, fun K' w' h => ⟨h1, h2, h3, t, h4, .inl ⟨h5, h⟩⟩⟩
  · exact ⟨_, h6, fun K' w' h => ⟨h1, h2, h3, t, h4, .inr ⟨h5, h⟩⟩⟩
theorem pure_uN (a : Value) : PureN (uN a) := fun K w ⟨b, h1, h2⟩ => ⟨_, h2, fun K' w' h => ⟨b, h1, h⟩⟩
theorem pure_uM (a : Value) : PureN (uM a) := fun K w ⟨k, b, h1, h2⟩ => ⟨_, h2, fun K' w' h => ⟨k, b, h1, h⟩⟩
theorem pure_nc (a : Value) : PureN (nc a) := fun K w ⟨b, h1, h2⟩ => ⟨_, h2, fun K' w' h => ⟨b, h1, h⟩⟩
theorem pure_fa (o : Nat) (a : Value) : PureN (fa o a) := fun K w ⟨b, q, h1, h2⟩ => ⟨_, h2, fun K' w' h => ⟨b, q, h1, h⟩⟩
theorem pure_fl (g : Bool) (z o : Nat) (a : Value) : PureN (fl g z o a) := fun K w ⟨b, q, h1, h2, h3⟩ => ⟨_, h3, fun K' w' h => ⟨b, q, h1, h2, h⟩⟩
theorem pure_ia (z : Nat) (a b : Value) : PureN (ia z a b) := fun K w ⟨b, o, n, c, k, j, h1, h2, h3, h4, h5⟩ => ⟨_, h5, fun K' w' h => ⟨b, o, n, c, k, j, h1, h2, h3, h4, h⟩⟩
theorem pure_iar (n z : Nat) (a b : Value) : PureN (iar n z a b) := fun K w ⟨b, o, k, j, h1, h2, h3, h4, h5⟩ => ⟨_, h5, fun K' w' h => ⟨b, o, k, j, h1, h2, h3, h4, h⟩⟩
theorem pure_ix (a b : Value) : PureN (ix a b) := fun K w ⟨l, k, j, c, h1, h2, h3, h4, h5⟩ => ⟨_, h5, fun K' w' h => ⟨l, k, j, c, h1, h2, h3, h4, h⟩⟩
theorem pure_slS (a : Value) (lo hi : Option Value) : PureN (slS a lo hi) := fun K w ⟨l, x, y, h1, h2, h3, h4, h5, h6, h7⟩ => ⟨_, h7, fun K' w' h => ⟨l, x, y, h1, h2, h3, h4, h5, h6, h⟩⟩
theorem pure_slL (z : Nat) (a : Value) (lo hi mx : Option Value) : PureN (slL z a lo hi mx) := fun K w ⟨ad, n, c, x, y, m, h1, h2, h3, h4, h5, h6, h7, h8, h9⟩ => ⟨_, h9, fun K' w' h => ⟨ad, n, c, x, y, m, h1, h2, h3, h4, h5, h6, h7, h8, h⟩⟩
theorem pure_slA (n z : Nat) (a : Value) (lo hi mx : Option Value) : PureN (slA n z a lo hi mx) := fun K w ⟨bl, o, x, y, m, h1, h2, h3, h4, h5, h6, h7, h8, h9⟩ => ⟨_, h9, fun K' w' h => ⟨bl, o, x, y, m, h1, h2, h3, h4, h5, h6, h7, h8, h⟩⟩
theorem pure_ex (a : Value) (i : Nat) : PureN (ex a i) := fun K w ⟨vs, v, h1, h2, h3⟩ => ⟨_, h3, fun K' w' h => ⟨vs, v, h1, h2, h⟩⟩
theorem pure_bd (z : List Value) (ps : List (Nat × Nat × Value)) : PureN (bd z ps) := fun K w ⟨cs, h1, h2⟩ => ⟨_, h2, fun K' w' h => ⟨cs, h1, h⟩⟩
theorem pure_lnS (a : Value) : PureN (lnS a) := fun K w ⟨l, h1, h2⟩ => ⟨_, h2, fun K' w' h => ⟨l, h1, h⟩⟩
theorem pure_lnL (a : Value) : PureN (lnL a) := fun K w ⟨l, n, c, h1, h2⟩ => ⟨_, h2, fun K' w' h => ⟨l, n, c, h1, h⟩⟩
theorem pure_cpL (a : Value) : PureN (cpL a) := fun K w ⟨l, n, c, h1, h2⟩ => ⟨_, h2, fun K' w' h => ⟨l, n, c, h1, h⟩⟩
theorem pure_mxI (a b : Value) : PureN (mxI a b) := fun K w ⟨k, x, y, h1, h2, h3⟩ => ⟨_, h3, fun K' w' h => ⟨k, x, y, h1, h2, h⟩⟩
theorem pure_mnI (a b : Value) : PureN (mnI a b) := fun K w ⟨k, x, y, h1, h2, h3⟩ => ⟨_, h3, fun K' w' h => ⟨k, x, y, h1, h2, h⟩⟩

theorem pure_rV (P : Program) (s : Sem Value) : PureN (rV P s) := fun K w ⟨v, h1, h2⟩ => ⟨v, h2, fun K' w' h => ⟨v, h1, h⟩⟩

theorem PureN.ev {N : (Value → World → Prop) → World → Prop} (hN : PureN N) {K : EV → World → Prop} {w : World} (h : N (fun v => K (.v v)) w) :
    ∃ x : EV, K x w ∧ ∀ (K' : EV → World → Prop) (w' : World), K' x w' → N (fun v => K' (.v v)) w' := by
  obtain ⟨v, h1, h2⟩ := hN _ w h
  exact ⟨.v v, h1, fun K' w' h => h2 (fun v => K' (.v v)) w' h⟩

/-- An operation that neither looks at the world nor changes it. -/
theorem vcOp_pure {o : Oper} (hp : (match okOf o.op with | .pure => true | _ => false) = true) {K : EV → World → Prop} {kp : List PanicEntry → World → Prop} {w : World} (h : vcOp P T e o K kp w) :
    ∃ x : EV, K x w ∧ ∀ (K' : EV → World → Prop) (kp' : List PanicEntry → World → Prop) (w' : World), K' x w' → vcOp P T e o K' kp' w' := by
  obtain ⟨dst, op, type, pos, after, guard⟩ := o
  cases op with
  | move x =>
    simp only [vcOp] at h ⊢
    split at h
    · rename_i v hv; exact ⟨v, h, fun K' kp' w' h' => h'⟩
    · exact h.elim
  | assign x =>
    simp only [vcOp] at h ⊢
    split at h
    · rename_i v hv; exact ⟨v, h, fun K' kp' w' h' => h'⟩
    · exact h.elim
  | pick c x y =>
    simp only [vcOp] at h ⊢
    split at h
    · rename_i x h1 h2; exact ⟨x, h, fun K' kp' w' h' => h'⟩
    · rename_i y h1 h2; exact ⟨y, h, fun K' kp' w' h' => h'⟩
    · obtain ⟨x, h1, h2⟩ := (pure_pk _ _ _).ev h; exact ⟨x, h1, fun K' kp' w' h' => h2 K' w' h'⟩
    · exact h.elim
  | build t ps =>
    simp only [vcOp, vcBuild] at h ⊢
    repeat' split at h
    all_goals first | exact h.elim | (obtain ⟨x, h1, h2⟩ := PureN.ev (pure_bd _ _) h; exact ⟨x, h1, fun K' kp' w' h' => h2 K' w' h'⟩)
  | nilCheck x =>
    simp only [vcOp] at h ⊢
    repeat' split at h
    all_goals first | exact h.elim | (obtain ⟨x, h1, h2⟩ := PureN.ev (pure_nc _) h; exact ⟨x, h1, fun K' kp' w' h' => h2 K' w' h'⟩)
  | binOp op t x y ty =>
    simp only [vcOp, vcBin] at h ⊢
    repeat' split at h
    all_goals first | exact h.elim | (obtain ⟨x, h1, h2⟩ := PureN.ev (pure_bH _ _ _ _) h; exact ⟨x, h1, fun K' kp' w' h' => h2 K' w' h'⟩) | (obtain ⟨x, h1, h2⟩ := PureN.ev (pure_bI _ _ _ _) h; exact ⟨x, h1, fun K' kp' w' h' => h2 K' w' h'⟩) | (obtain ⟨x, h1, h2⟩ := PureN.ev (pure_bS _ _ _) h; exact ⟨x, h1, fun K' kp' w' h' => h2 K' w' h'⟩) | (obtain ⟨x, h1, h2⟩ := PureN.ev (pure_bB _ _ _) h; exact ⟨x, h1, fun K' kp' w' h' => h2 K' w' h'⟩) | (obtain ⟨x, h1, h2⟩ := PureN.ev (pure_bN _ _ _ _) h; exact ⟨x, h1, fun K' kp' w' h' => h2 K' w' h'⟩) | (obtain ⟨x, h1, h2⟩ := PureN.ev (pure_rV _ _) h; exact ⟨x, h1, fun K' kp' w' h' => h2 K' w' h'⟩)
  | unOp op t x =>
    cases op <;> simp only [vcOp] at h ⊢
    all_goals
      repeat' split at h
      all_goals first | exact h.elim | (obtain ⟨x, h1, h2⟩ := PureN.ev (pure_uN _) h; exact ⟨x, h1, fun K' kp' w' h' => h2 K' w' h'⟩) | (obtain ⟨x, h1, h2⟩ := PureN.ev (pure_uM _) h; exact ⟨x, h1, fun K' kp' w' h' => h2 K' w' h'⟩)
  | makeInterface t x =>
    simp only [vcOp] at h ⊢
    repeat' split at h
    all_goals first | exact h.elim | exact ⟨_, h, fun K' kp' w' h' => h'⟩
  | makeFunc fn first cap =>
    simp only [vcOp] at h ⊢
    repeat' split at h
    all_goals first | exact h.elim | exact ⟨_, h, fun K' kp' w' h' => h'⟩
  | slice t x lo hi mx =>
    simp only [vcOp, vcSlice] at h ⊢
    repeat' split at h
    all_goals first | exact h.elim | (obtain ⟨x, h1, h2⟩ := PureN.ev (pure_slS _ _ _) h; exact ⟨x, h1, fun K' kp' w' h' => h2 K' w' h'⟩) | (obtain ⟨x, h1, h2⟩ := PureN.ev (pure_slL _ _ _ _ _) h; exact ⟨x, h1, fun K' kp' w' h' => h2 K' w' h'⟩) | (obtain ⟨x, h1, h2⟩ := PureN.ev (pure_slA _ _ _ _ _ _) h; exact ⟨x, h1, fun K' kp' w' h' => h2 K' w' h'⟩)
  | fieldAddr t x f =>
    simp only [vcOp, vcFieldAddr] at h ⊢
    repeat' split at h
    all_goals first | exact h.elim | (obtain ⟨x, h1, h2⟩ := PureN.ev (pure_fa _ _) h; exact ⟨x, h1, fun K' kp' w' h' => h2 K' w' h'⟩)
  | field t x f =>
    simp only [vcOp, vcField] at h ⊢
    repeat' split at h
    all_goals first | exact h.elim | (obtain ⟨x, h1, h2⟩ := PureN.ev (pure_fl _ _ _ _) h; exact ⟨x, h1, fun K' kp' w' h' => h2 K' w' h'⟩)
  | indexAddr t x y =>
    simp only [vcOp, vcIndexAddr] at h ⊢
    repeat' split at h
    all_goals first | exact h.elim | (obtain ⟨x, h1, h2⟩ := PureN.ev (pure_ia _ _ _) h; exact ⟨x, h1, fun K' kp' w' h' => h2 K' w' h'⟩) | (obtain ⟨x, h1, h2⟩ := PureN.ev (pure_iar _ _ _ _) h; exact ⟨x, h1, fun K' kp' w' h' => h2 K' w' h'⟩)
  | index t x y =>
    simp only [vcOp, vcIndex] at h ⊢
    repeat' split at h
    all_goals first | exact h.elim | (obtain ⟨x, h1, h2⟩ := PureN.ev (pure_ix _ _) h; exact ⟨x, h1, fun K' kp' w' h' => h2 K' w' h'⟩)
  | typeAssert x xt t ok =>
    simp only [vcOp] at h ⊢
    repeat' split at h
    all_goals first | exact h.elim | (obtain ⟨x, h1, h2⟩ := PureN.ev (pure_rV _ _) h; exact ⟨x, h1, fun K' kp' w' h' => h2 K' w' h'⟩)
  | extract x i =>
    simp only [vcOp] at h ⊢
    repeat' split at h
    all_goals first | exact h.elim | (obtain ⟨x, h1, h2⟩ := PureN.ev (pure_ex _ _) h; exact ⟨x, h1, fun K' kp' w' h' => h2 K' w' h'⟩)
  | call c =>
    obtain ⟨callee, args, argTypes⟩ := c
    cases callee with
    | value f => simp [okOf] at hp
    | invoke r m => simp [okOf] at hp
    | builtin b =>
      cases b <;> simp only [okOf] at hp <;> first | (simp at hp; done) | skip
      all_goals
        simp only [vcOp, vcCall, vcLen, vcCap, vcMax] at h ⊢
        repeat' split at h
        all_goals first
          | exact h.elim
          | (obtain ⟨x, h1, h2⟩ := PureN.ev (pure_lnS _) h; exact ⟨x, h1, fun K' kp' w' h' => h2 K' w' h'⟩)
          | (obtain ⟨x, h1, h2⟩ := PureN.ev (pure_lnL _) h; exact ⟨x, h1, fun K' kp' w' h' => h2 K' w' h'⟩)
          | (obtain ⟨x, h1, h2⟩ := PureN.ev (pure_cpL _) h; exact ⟨x, h1, fun K' kp' w' h' => h2 K' w' h'⟩)
          | (obtain ⟨x, h1, h2⟩ := PureN.ev (pure_mxI _ _) h; exact ⟨x, h1, fun K' kp' w' h' => h2 K' w' h'⟩)
          | (obtain ⟨x, h1, h2⟩ := PureN.ev (pure_mnI _ _) h; exact ⟨x, h1, fun K' kp' w' h' => h2 K' w' h'⟩)
  | _ => simp [okOf] at hp

/-- A load. -/
theorem vcOp_read {o : Oper} {t : TypeId} {a : Operand} (ho : o.op = .load t a) {K : EV → World → Prop} {kp : List PanicEntry → World → Prop} {w : World} (h : vcOp P T e o K kp w) :
    ∃ (x : EV) (ti : TI) (v : Value), K x w ∧ T.get t = some ti ∧ va e a = some v ∧ rkP ⟨0, ti.kind.agg, v, x.val⟩ w ∧
      ∀ (K' : EV → World → Prop) (kp' : List PanicEntry → World → Prop) (w' : World), rkP ⟨0, ti.kind.agg, v, x.val⟩ w' → K' x w' → vcOp P T e o K' kp' w' := by
  obtain ⟨dst, op, type, pos, after, guard⟩ := o
  simp only at ho
  subst ho
  simp only [vcOp] at h ⊢
  split at h
  · rename_i ti v h1 h2
    split at h
    · rename_i hk
      obtain ⟨ad, vs, rfl, hl, hc, hK⟩ := h
      refine ⟨.v (.agg vs.toArray), ti, _, hK, h1, h2, ?_, ?_⟩
      · simp only [rkP, hk]; exact ⟨ad, vs.toArray, rfl, rfl, by simpa using hc⟩
      · intro K' kp' w' hr hK'
        simp only [rkP, hk, EV.val] at hr
        obtain ⟨ad', vs', e1, e2, hc'⟩ := hr
        injection e1 with e1
        injection e1 with e1
        subst e1
        injection e2 with e2
        subst e2
        exact ⟨ad, vs, rfl, hl, by simpa using hc', hK'⟩
    · rename_i hk
      obtain ⟨ad, u, rfl, hc, hK⟩ := h
      refine ⟨.v u, ti, _, hK, h1, h2, ?_, ?_⟩
      · simp only [rkP, hk]; exact ⟨ad, rfl, hc⟩
      · intro K' kp' w' hr hK'
        simp only [rkP, hk, EV.val] at hr
        obtain ⟨ad', e1, hc'⟩ := hr
        injection e1 with e1
        injection e1 with e1
        subst e1
        exact ⟨ad, u, rfl, hc', hK'⟩
  · exact h.elim
end
end Go.Vx
namespace Go.Vx
open Go

/-! ### What must come before what -/
theorem testBit_maskOf {acc : List Nat} {i : Nat} : ∀ {ps : List Nat}, (maskOf acc ps).testBit i = true → ∃ p ∈ ps, i = p ∨ (acc.getD p 0).testBit i = true := by
  intro ps
  induction ps with
  | nil => intro h; simp [maskOf] at h
  | cons p ps ih =>
    intro h
    simp only [maskOf, Nat.testBit_or, Bool.or_eq_true] at h
    rcases h with (h | h) | h
    · refine ⟨p, by simp, .inl ?_⟩
      rw [Nat.one_shiftLeft, Nat.testBit_two_pow] at h
      exact (of_decide_eq_true h).symm
    · exact ⟨p, by simp, .inr h⟩
    · obtain ⟨q, hq, h⟩ := ih h
      exact ⟨q, by simp [hq], h⟩

theorem ancGo_spec : ∀ (l : List Oper) (acc : List Nat), (ancGo l acc).take acc.length = acc ∧ (ancGo l acc).length = acc.length + l.length ∧
    ∀ q o, l[q]? = some o → (ancGo l acc)[acc.length + q]? = some (maskOf ((ancGo l acc).take (acc.length + q)) (predsE o.after.toList)) := by
  intro l
  induction l with
  | nil => intro acc; refine ⟨by simp [ancGo], by simp [ancGo], fun q o h => by simp at h⟩
  | cons o l ih =>
    intro acc
    have hs := ih (acc ++ [maskOf acc (predsE o.after.toList)])
    obtain ⟨h1, h2, h3⟩ := hs
    simp only [List.length_append, List.length_cons, List.length_nil, Nat.zero_add] at h1 h2 h3
    have h4 : (ancGo (o :: l) acc).take acc.length = acc := by
      show (ancGo l (acc ++ [maskOf acc (predsE o.after.toList)])).take acc.length = acc
      have := congrArg (List.take acc.length) h1
      rw [List.take_take, Nat.min_eq_left (by omega)] at this
      simpa using this
    refine ⟨h4, by show (ancGo l _).length = _; rw [h2]; simp; omega, fun q o' hq => ?_⟩
    cases q with
    | zero =>
      simp only [List.getElem?_cons_zero, Option.some.injEq] at hq
      subst hq
      have e1 : (ancGo (o :: l) acc)[acc.length + 0]? = (acc ++ [maskOf acc (predsE o.after.toList)])[acc.length]? := by
        have := congrArg (fun x => x[acc.length]?) h1
        simp only [List.getElem?_take] at this
        rw [if_pos (by omega)] at this
        exact this
      rw [e1, Nat.add_zero, h4]
      simp
    | succ q =>
      have := h3 q o' (by simpa using hq)
      rw [show acc.length + (q + 1) = acc.length + 1 + q from by omega]
      exact this

section
variable {ops : Array Oper}

/-- A set that holds with each operation all that must come before it. -/
def Closed (ops : Array Oper) (D : Nat → Prop) : Prop := ∀ j o, ops[j]? = some o → D j → ∀ p ∈ predsE o.after.toList, D p

theorem anc_sound {D : Nat → Prop} (hD : Closed ops D) : ∀ (j : Nat) (o : Oper), ops[j]? = some o → (∀ p ∈ predsE o.after.toList, D p) → ∀ i, ((ancGo ops.toList []).getD j 0).testBit i = true → D i := by
  intro j
  induction j using Nat.strongRecOn with
  | _ j ih =>
    intro o ho hp i hi
    obtain ⟨_, hlen, h3⟩ := ancGo_spec ops.toList []
    have hj := h3 j o (by simpa using ho)
    simp only [List.length_nil, Nat.zero_add] at hj hlen
    rw [List.getD_eq_getElem?_getD, hj] at hi
    simp only [Option.getD_some] at hi
    obtain ⟨p, hpm, h⟩ := testBit_maskOf hi
    rcases h with rfl | h
    · exact hp _ hpm
    · by_cases hlt : p < j
      · rw [List.getD_eq_getElem?_getD, List.getElem?_take, if_pos hlt] at h
        have hjm : j < ops.size := by
          rcases Nat.lt_or_ge j ops.size with h | h
          · exact h
          · simp [Array.getElem?_eq_none h] at ho
        have hpo : ops[p]? = some (ops[p]'(by omega)) := Array.getElem?_eq_getElem (by omega)
        exact ih p hlt _ hpo (hD p _ hpo (hp p hpm)) i (by rw [List.getD_eq_getElem?_getD]; exact h)
      · rw [List.getD_eq_getElem?_getD, List.getElem?_take, if_neg hlt] at h
        simp at h
end

theorem predsE_mem {l : List Edge} : ∀ {p : Nat}, p ∈ predsE l ↔ ∃ e ∈ l, Region.binds .any e = true ∧ e.on = p := by
  induction l with
  | nil => intro p; simp [predsE]
  | cons e l ih =>
    intro p
    simp only [predsE]
    split
    · rename_i hb
      simp only [List.mem_cons, ih]
      constructor
      · rintro (rfl | ⟨e', h1, h2⟩)
        · exact ⟨e, .inl rfl, hb, rfl⟩
        · exact ⟨e', .inr h1, h2⟩
      · rintro ⟨e', rfl | h1, h2, h3⟩
        · exact .inl h3.symm
        · exact .inr ⟨e', h1, h2, h3⟩
    · rename_i hb
      simp only [List.mem_cons, ih]
      constructor
      · rintro ⟨e', h1, h2⟩; exact ⟨e', .inr h1, h2⟩
      · rintro ⟨e', rfl | h1, h2, h3⟩
        · rw [hb] at h2; simp at h2
        · exact ⟨e', h1, h2, h3⟩

def Ls (listed : Array Bool) (j : Nat) : Prop := listed[j]? = some true

theorem ready_mem {ops : Array Oper} {listed : Array Bool} (hs : listed.size = ops.size) {i : Nat} (h : i ∈ Region.ready .any ops listed) :
    ∃ o, ops[i]? = some o ∧ ¬ Ls listed i ∧ ∀ p ∈ predsE o.after.toList, Ls listed p := by
  simp only [Region.ready, List.mem_filter, List.mem_range, Bool.and_eq_true] at h
  obtain ⟨hlt, h1, h2⟩ := h
  refine ⟨ops[i], Array.getElem?_eq_getElem hlt, ?_, ?_⟩
  · intro hl
    simp only [Ls] at hl
    rw [Array.getD_eq_getD_getElem?, hl] at h1
    simp at h1
  · intro p hp
    obtain ⟨e, he, hb, rfl⟩ := predsE_mem.1 hp
    rw [Array.getElem?_eq_getElem hlt] at h2
    simp only [Option.map_some, Option.getD_some] at h2
    rw [← Array.all_toList, List.all_eq_true] at h2
    have := h2 e he
    rw [hb] at this
    simp only [Bool.not_true, Bool.false_or] at this
    rw [Array.getD_eq_getD_getElem?] at this
    simp only [Ls]
    cases hq : listed[e.on]? with
    | none => rw [hq] at this; simp at this
    | some b => rw [hq] at this; simp at this; rw [this]

theorem ready_nil {ops : Array Oper} {listed : Array Bool} (hs : listed.size = ops.size) (ho : ∀ j o, ops[j]? = some o → ∀ p ∈ predsE o.after.toList, p < j) (h : Region.ready .any ops listed = []) : ∀ i, i < ops.size → Ls listed i := by
  intro i
  induction i using Nat.strongRecOn with
  | _ i ih =>
    intro hlt
    have hn : ¬ i ∈ Region.ready .any ops listed := by rw [h]; simp
    simp only [Region.ready, List.mem_filter, List.mem_range, Bool.and_eq_true, not_and] at hn
    have h2 := hn hlt
    have hi : listed[i]? = some (listed[i]'(by omega)) := Array.getElem?_eq_getElem (by omega)
    cases hb : listed[i]'(by omega) with
    | true => simp only [Ls, hi, hb]
    | false =>
      exfalso
      refine h2 ?_ ?_
      · rw [Array.getD_eq_getD_getElem?, hi, hb]; simp
      · rw [Array.getElem?_eq_getElem hlt]
        simp only [Option.map_some, Option.getD_some]
        rw [← Array.all_toList, List.all_eq_true]
        intro e he
        by_cases hbd : Region.binds .any e = true
        · have hl := ih e.on (ho i _ (Array.getElem?_eq_getElem hlt) e.on (predsE_mem.2 ⟨e, he, hbd, rfl⟩)) (by have := ho i _ (Array.getElem?_eq_getElem hlt) e.on (predsE_mem.2 ⟨e, he, hbd, rfl⟩); omega)
          rw [Array.getD_eq_getD_getElem?]
          simp only [Ls] at hl
          simp [hl]
        · simp [hbd]
end Go.Vx
namespace Go.Vx
open Go

theorem predsLt_ok : ∀ (l : List Oper) (i : Nat), predsLt l i = true → ∀ j o, l[j]? = some o → ∀ p ∈ predsE o.after.toList, p < i + j := by
  intro l
  induction l with
  | nil => intro i _ j o h; simp at h
  | cons o l ih =>
    intro i h j o' hj p hp
    simp only [predsLt, Bool.and_eq_true, List.all_eq_true] at h
    cases j with
    | zero =>
      simp only [List.getElem?_cons_zero, Option.some.injEq] at hj
      subst hj
      have := h.1 p hp
      rw [Nat.blt_eq] at this
      omega
    | succ j =>
      have := ih (i + 1) h.2 j o' (by simpa using hj) p hp
      omega

def pre (A : List Nat) (i j : Nat) : Prop := (A.getD j 0).testBit i = true

/-- What is known of two operations in the order that is gone through. -/
structure PairOk (ops : Array Oper) (A : List Nat) (i j : Nat) : Prop where
  fwd : ¬ pre A j i
  eff : isEffO ops i = true → pre A i j
  r1 : ∀ d, dstO ops i = some d → d ∈ looksO ops j → pre A i j
  r2 : ∀ d, dstO ops j = some d → d ∈ looksO ops i → pre A i j
  dst : ∀ d, dstO ops i = some d → dstO ops j ≠ some d
  ne : i ≠ j

theorem okPair_ok {ops : Array Oper} {A : List Nat} {i j : Nat} (h : okPair ops A i j = true) : PairOk ops A i j := by
  simp only [okPair, Bool.and_eq_true, Bool.not_eq_true', Bool.or_eq_true] at h
  obtain ⟨⟨⟨⟨⟨h1, h2⟩, h3⟩, h4⟩, h5⟩, h6⟩ := h
  refine ⟨by simp only [pre]; rw [h1]; simp, ?_, ?_, ?_, ?_, ?_⟩
  · intro he
    rcases h2 with h2 | h2
    · rw [he] at h2; simp at h2
    · exact h2
  · intro d hd hm
    rcases h3 with h3 | h3
    · simp [hitB, hd, hm] at h3
    · exact h3
  · intro d hd hm
    rcases h4 with h4 | h4
    · simp [hitB, hd, hm] at h4
    · exact h4
  · intro d hd hd'
    rw [hd, hd'] at h5
    simp at h5
  · intro e
    subst e
    simp at h6

theorem pairsB_ok {ops : Array Oper} {A : List Nat} : ∀ {l : List Nat}, pairsB ops A l = true → l.Pairwise (PairOk ops A) := by
  intro l
  induction l with
  | nil => intro _; exact .nil
  | cons i l ih =>
    intro h
    simp only [pairsB, Bool.and_eq_true, List.all_eq_true] at h
    exact .cons (fun j hj => okPair_ok (h.1 j hj)) (ih h.2)

structure Item where
  i : Nat
  x : EV
  e : Env

theorem pair_or {α : Type} {R : α → α → Prop} {l : List α} (h : l.Pairwise R) {x y : α} (hx : x ∈ l) (hy : y ∈ l) (hne : x ≠ y) : R x y ∨ R y x := by
  induction h with
  | nil => simp at hx
  | @cons b l ha hl ih =>
    rcases List.mem_cons.1 hx with h1 | h1
    · rcases List.mem_cons.1 hy with h2 | h2
      · exact absurd (h1.trans h2.symm) hne
      · exact .inl (h1 ▸ ha _ h2)
    · rcases List.mem_cons.1 hy with h2 | h2
      · exact .inr (h2 ▸ ha _ h1)
      · exact ih h1 h2

theorem item_eq {l : List Item} (h : (l.map (·.i)).Nodup) {p q : Item} (hp : p ∈ l) (hq : q ∈ l) (he : p.i = q.i) : p = q := by
  induction l with
  | nil => simp at hp
  | cons a l ih =>
    simp only [List.map_cons, List.nodup_cons] at h
    rcases List.mem_cons.1 hp with h1 | h1
    · rcases List.mem_cons.1 hq with h2 | h2
      · exact h1.trans h2.symm
      · exact absurd (List.mem_map.2 ⟨q, h2, by rw [← he, h1]⟩) h.1
    · rcases List.mem_cons.1 hq with h2 | h2
      · exact absurd (List.mem_map.2 ⟨p, h1, by rw [he, h2]⟩) h.1
      · exact ih h.2 h1 h2

theorem put_get (a : Act) (d : Option Nat) (v : Value) (t : Nat) (h : d ≠ some t) : (a.put d v).tmps[t]? = a.tmps[t]? := by
  cases d with
  | none => rfl
  | some d =>
    have : d ≠ t := fun e => h (by rw [e])
    simp [Act.put, Array.getElem?_setIfInBounds_ne this]

theorem put_get_same (a : Act) (d : Nat) (v : Value) (h : d < a.tmps.size) : (a.put (some d) v).tmps[d]? = some v := by
  simp [Act.put, h]

theorem put_ds (a : Act) (d : Option Nat) (v : Value) : (a.put d v).defers = a.defers := by cases d <;> rfl

section
variable {P : Program} {T : Tab} {n : Nat} {ops : Array Oper} {A : List Nat} {k : Kont} {s0 : S}

/-- The operation yields its value. -/
def Yld (P : Program) (n : Nat) (ops : Array Oper) (k : Kont) (p : Item) (w : World) : Prop :=
  ∀ (r : Option Nat) (a : Act) (K : Act → World → Prop), Agree a p.e → K (a.put (dstO ops p.i) p.x.val) w → wpOpIn (fe r) 0 P ops (k.toQ n) p.i K a w

structure Good (P : Program) (T : Tab) (n : Nat) (ops : Array Oper) (A : List Nat) (k : Kont) (s0 : S) (ord : List Nat) (listed : Array Bool) (a : Act) (w : World) (pend : List Item) (rest : List Nat) (s : S) (pd : List Pd) : Prop where
  size : listed.size = ops.size
  asize : a.tmps.size = n
  base : R n a s0
  ads : a.defers = s.ds
  part : ∀ i, i < ops.size → Ls listed i ∨ (∃ p ∈ pend, p.i = i) ∨ i ∈ rest
  restU : ∀ i ∈ rest, ¬ Ls listed i
  pendU : ∀ p ∈ pend, ¬ Ls listed p.i
  suf : ∃ q, ord = q ++ rest ∧ ∀ p ∈ pend, p.i ∈ q
  pnd : (pend.map (·.i)).Nodup
  env : ∀ t x, s.e.get t = some x → (∃ p ∈ pend, dstO ops p.i = some t ∧ x.val = p.x.val) ∨ (a.tmps[t]? = some x.val ∧ ∀ p ∈ pend, dstO ops p.i ≠ some t)
  can : vcCan P T n ops A rest s pd k.nrm (k.pnc s0) w
  yld : ∀ p ∈ pend, Yld P n ops k p w
  keepY : ∀ p ∈ pend, ∀ w', (∀ q ∈ pd, q.i = p.i → rkP q w') → Yld P n ops k p w'
  link : ∀ p ∈ pend, ∀ t x, p.e.get t = some x → (∃ q ∈ pend, dstO ops q.i = some t ∧ pre A q.i p.i ∧ x.val = q.x.val) ∨ (a.tmps[t]? = some x.val ∧ ∀ q ∈ pend, dstO ops q.i = some t → ¬ pre A q.i p.i)
  linkL : ∀ p ∈ pend, ∀ t x, p.e.get t = some x → t ∈ looksO ops p.i
  dlt : ∀ p ∈ pend, ∀ d, dstO ops p.i = some d → d < n

/-- A guard, decided. -/
theorem can_cases {i : Nat} {rest : List Nat} {s : S} {pd : List Pd} {kn : S → World → Prop} {kp : List PanicEntry → World → Prop} {w : World}
    (h : vcCan P T n ops A (i :: rest) s pd kn kp w) : ∃ o s1, ops[i]? = some o ∧ s1.ds = s.ds ∧ (∀ t x, s1.e.get t = some x → ∃ x0, s.e.get t = some x0 ∧ x.val = x0.val) ∧
      ((canGo P T n ops A o i s1 pd (fun s' pd' w' => vcCan P T n ops A rest s' pd' kn kp w') kp w ∧ ∀ a, Agree a (keep s1.e (looks ops o)) → Region.wanted o (yielded ops a.tmps) = true) ∨
       (putS n s1 o.dst .u (fun s' w' => vcCan P T n ops A rest s' pd kn kp w') w ∧ ∀ a, Agree a (keep s1.e (looks ops o)) → Region.wanted o (yielded ops a.tmps) = false)) := by
  simp only [vcCan] at h
  split at h
  · exact h.elim
  · rename_i o ho
    split at h
    · rename_i hg
      exact ⟨o, s, ho, rfl, fun t x hx => ⟨x, hx, rfl⟩, .inl ⟨h, fun a _ => by simp [Region.wanted, hg]⟩⟩
    · rename_i j want hg
      split at h
      · exact h.elim
      · rename_i d hd
        have hget : ∀ (e : Env) (x : EV), e.get d = some x → (keep e (looks ops o)).get d = some x := by
          intro e x hx
          simp only [looks, hg, hd, List.cons_append, List.nil_append, keep, hx, Env.get]
          simp
        have hy : ∀ (e : Env) (x : EV) (a : Act), e.get d = some x → Agree a (keep e (looks ops o)) → yielded ops a.tmps j = (match x.val with | .bool b => some b | _ => none) := by
          intro e x a hx hA
          have := hA d x (hget e x hx)
          simp only [yielded, hd, Option.bind_some, this]
          cases x.val <;> rfl
        have hlit : ∀ (b : Bool) (c : Value), s.e.get d = some (.v c) → c = .bool b → ∀ t x, Env.get ((d, .b b) :: s.e) t = some x → ∃ x0, s.e.get t = some x0 ∧ x.val = x0.val := by
          intro b c hc hb t x hx
          simp only [Env.get] at hx
          split at hx
          · rename_i he
            have : d = t := Nat.eq_of_beq_eq_true he
            subst this
            injection hx with hx
            subst hx
            exact ⟨_, hc, hb.symm⟩
          · exact ⟨x, hx, rfl⟩
        have hlg : ∀ b, Env.get ((d, EV.b b) :: s.e) d = some (.b b) := fun b => by simp [Env.get]
        split at h
        · rename_i hx
          cases want
          · exact ⟨o, s, ho, rfl, fun t x hx => ⟨x, hx, rfl⟩, .inr ⟨h, fun a hA => by simp [Region.wanted, hg, hy s.e _ a hx hA, EV.val]⟩⟩
          · exact ⟨o, s, ho, rfl, fun t x hx => ⟨x, hx, rfl⟩, .inl ⟨h, fun a hA => by simp [Region.wanted, hg, hy s.e _ a hx hA, EV.val]⟩⟩
        · rename_i hx
          cases want
          · exact ⟨o, s, ho, rfl, fun t x hx => ⟨x, hx, rfl⟩, .inl ⟨h, fun a hA => by simp [Region.wanted, hg, hy s.e _ a hx hA, EV.val]⟩⟩
          · exact ⟨o, s, ho, rfl, fun t x hx => ⟨x, hx, rfl⟩, .inr ⟨h, fun a hA => by simp [Region.wanted, hg, hy s.e _ a hx hA, EV.val]⟩⟩
        · rename_i hx
          exact ⟨o, s, ho, rfl, fun t x hx => ⟨x, hx, rfl⟩, .inr ⟨h, fun a hA => by simp [Region.wanted, hg, hy s.e _ a hx hA, EV.val, undef]⟩⟩
        · rename_i c hx
          cases want
          · obtain ⟨t, rfl, h1, h2⟩ := h
            cases t
            · exact ⟨o, { e := (d, .b false) :: s.e, ds := s.ds }, ho, rfl, hlit false _ hx rfl, .inl ⟨h2 rfl, fun a hA => by simp [Region.wanted, hg, hy _ _ a (hlg false) hA, EV.val]⟩⟩
            · exact ⟨o, { e := (d, .b true) :: s.e, ds := s.ds }, ho, rfl, hlit true _ hx rfl, .inr ⟨h1 rfl, fun a hA => by simp [Region.wanted, hg, hy _ _ a (hlg true) hA, EV.val]⟩⟩
          · obtain ⟨t, rfl, h1, h2⟩ := h
            cases t
            · exact ⟨o, { e := (d, .b false) :: s.e, ds := s.ds }, ho, rfl, hlit false _ hx rfl, .inr ⟨h2 rfl, fun a hA => by simp [Region.wanted, hg, hy _ _ a (hlg false) hA, EV.val]⟩⟩
            · exact ⟨o, { e := (d, .b true) :: s.e, ds := s.ds }, ho, rfl, hlit true _ hx rfl, .inl ⟨h1 rfl, fun a hA => by simp [Region.wanted, hg, hy _ _ a (hlg true) hA, EV.val]⟩⟩
        · exact h.elim

theorem rks_ok {A : List Nat} {i : Nat} {w : World} {p : Prop} : ∀ {l : List Pd}, rks A i w p l → p ∧ ∀ q ∈ l, (A.getD i 0).testBit q.i = false → rkP q w := by
  intro l
  induction l with
  | nil => intro h; exact ⟨h, fun q hq => by simp at hq⟩
  | cons q l ih =>
    intro h
    simp only [rks] at h
    split at h
    · rename_i hb
      obtain ⟨h1, h2⟩ := ih h
      refine ⟨h1, fun q' hq' hb' => ?_⟩
      rcases List.mem_cons.1 hq' with rfl | hq'
      · rw [hb] at hb'; simp at hb'
      · exact h2 q' hq' hb'
    · obtain ⟨h0, h⟩ := h
      obtain ⟨h1, h2⟩ := ih h
      refine ⟨h1, fun q' hq' hb' => ?_⟩
      rcases List.mem_cons.1 hq' with rfl | hq'
      · exact h0
      · exact h2 q' hq' hb'

/-- A state with a slot written. -/
theorem putS_inv {s : S} {d : Option Nat} {x : EV} {K : S → World → Prop} {w : World} (h : putS n s d x K w) :
    ∃ s', K s' w ∧ s'.ds = s.ds ∧ (∀ t y, s'.e.get t = some y → (d = some t ∧ y = x) ∨ (d ≠ some t ∧ s.e.get t = some y)) ∧ ∀ q, d = some q → q < n := by
  cases d with
  | none => exact ⟨s, h, rfl, fun t y hy => .inr ⟨by simp, hy⟩, fun q hq => by simp at hq⟩
  | some d =>
    simp only [putS] at h
    split at h
    · rename_i hb
      refine ⟨_, h, rfl, fun t y hy => ?_, fun q hq => by injection hq with hq; subst hq; rw [← Nat.blt_eq]; exact hb⟩
      simp only [Env.get] at hy
      split at hy
      · rename_i he
        have : d = t := Nat.eq_of_beq_eq_true he
        subst this
        injection hy with hy
        exact .inl ⟨rfl, hy.symm⟩
      · rename_i he
        exact .inr ⟨fun e => by injection e with e; subst e; simp at he, hy⟩
    · exact h.elim

theorem looksO_eq {i : Nat} {o : Oper} (h : ops[i]? = some o) : looksO ops i = looks ops o := by simp [looksO, h]
theorem dstO_eq {i : Nat} {o : Oper} (h : ops[i]? = some o) : dstO ops i = o.dst := by simp [dstO, h]

theorem wpOp_wanted {r : Option Nat} {i : Nat} {o : Oper} {K : Act → World → Prop} {Q : Exit → Act → World → Prop} {a : Act} {w : World} (ho : ops[i]? = some o) (hw : Region.wanted o (yielded ops a.tmps) = true) (h : o.wpIn (fe r) 0 P a w K Q) : wpOpIn (fe r) 0 P ops Q i K a w := by
  unfold wpOpIn
  simp only [ho, hw, if_true]
  exact h

theorem wpOp_unwanted {r : Option Nat} {i : Nat} {o : Oper} {K : Act → World → Prop} {Q : Exit → Act → World → Prop} {a : Act} {w : World} (ho : ops[i]? = some o) (hw : Region.wanted o (yielded ops a.tmps) = false) (h : K (a.put o.dst undef) w) : wpOpIn (fe r) 0 P ops Q i K a w := by
  unfold wpOpIn
  simp only [ho, hw, Bool.false_eq_true, if_false]
  exact ⟨fun _ _ => trivial, h⟩

/-- The head of what is left, if it is no effect, is done in thought. -/
theorem Good.flush (hT : Tab.ok P T) {ord : List Nat} (hirr : ∀ i ∈ ord, ¬ pre A i i) (hord : ord.Pairwise (PairOk ops A)) {listed : Array Bool} {a : Act} {w : World} {pend : List Item} {h : Nat} {rest : List Nat} {s : S} {pd : List Pd}
    (G : Good P T n ops A k s0 ord listed a w pend (h :: rest) s pd) (hne : isEffO ops h = false) : ∃ it s' pd', it.i = h ∧ Good P T n ops A k s0 ord listed a w (it :: pend) rest s' pd' := by
  obtain ⟨q, hq, hqp⟩ := G.suf
  have hpq : ∀ p ∈ pend, PairOk ops A p.i h := by
    intro p hp
    rw [hq, List.pairwise_append] at hord
    exact hord.2.2 _ (hqp p hp) h (by simp)
  obtain ⟨o, s1, ho, hds, henv, hcase⟩ := can_cases G.can
  have hlo := looksO_eq ho
  have hdo := dstO_eq ho
  -- what the canonical frame says, said of the frame as it is
  have env1 : ∀ t x, s1.e.get t = some x → (∃ p ∈ pend, dstO ops p.i = some t ∧ x.val = p.x.val) ∨ (a.tmps[t]? = some x.val ∧ ∀ p ∈ pend, dstO ops p.i ≠ some t) := by
    intro t x hx
    obtain ⟨x0, h0, hv⟩ := henv t x hx
    rw [hv]
    exact G.env t x0 h0
  -- whatever comes of it
  have fin : ∀ (x : EV) (s' : S) (pd' : List Pd), (vcCan P T n ops A rest s' pd' k.nrm (k.pnc s0) w) → s'.ds = s1.ds →
      (∀ t y, s'.e.get t = some y → (o.dst = some t ∧ y = x) ∨ (o.dst ≠ some t ∧ s1.e.get t = some y)) → (∀ z ∈ pd, z ∈ pd') →
      (∀ w', (∀ z ∈ pd', z.i = h → rkP z w') → Yld P n ops k ⟨h, x, keep s1.e (looks ops o)⟩ w') → Yld P n ops k ⟨h, x, keep s1.e (looks ops o)⟩ w → (∀ d, o.dst = some d → d < n) →
      ∃ it s' pd', it.i = h ∧ Good P T n ops A k s0 ord listed a w (it :: pend) rest s' pd' := by
    intro x s' pd' hcan hds' hget hpd hky hy hdl
    refine ⟨⟨h, x, keep s1.e (looks ops o)⟩, s', pd', rfl, ?_⟩
    refine ⟨G.size, G.asize, G.base, by rw [G.ads, hds', hds], ?_, fun i hi => G.restU i (by simp [hi]), ?_, ⟨q ++ [h], by rw [hq]; simp, ?_⟩, ?_, ?_, hcan, ?_, ?_, ?_, ?_, ?_⟩
    · intro i hi
      rcases G.part i hi with h1 | ⟨p, hp, h1⟩ | h1
      · exact .inl h1
      · exact .inr (.inl ⟨p, by simp [hp], h1⟩)
      · rcases List.mem_cons.1 h1 with rfl | h1
        · exact .inr (.inl ⟨_, List.mem_cons_self .., rfl⟩)
        · exact .inr (.inr h1)
    · intro p hp
      rcases List.mem_cons.1 hp with rfl | hp
      · exact G.restU h (by simp)
      · exact G.pendU p hp
    · intro p hp
      rcases List.mem_cons.1 hp with rfl | hp
      · simp
      · simp [hqp p hp]
    · simp only [List.map_cons, List.nodup_cons]
      refine ⟨?_, G.pnd⟩
      intro hm
      obtain ⟨p, hp, he⟩ := List.mem_map.1 hm
      exact (hpq p hp).ne he
    · intro t y hy'
      rcases hget t y hy' with ⟨hd, rfl⟩ | ⟨hd, hg⟩
      · exact .inl ⟨_, List.mem_cons_self .., by rw [hdo]; exact hd, rfl⟩
      · rcases env1 t y hg with ⟨p, hp, h1, h2⟩ | ⟨h1, h2⟩
        · exact .inl ⟨p, by simp [hp], h1, h2⟩
        · refine .inr ⟨h1, fun p hp => ?_⟩
          rcases List.mem_cons.1 hp with rfl | hp
          · rw [hdo]; exact hd
          · exact h2 p hp
    · intro p hp
      rcases List.mem_cons.1 hp with rfl | hp
      · exact hy
      · exact G.yld p hp
    · intro p hp w' hw'
      rcases List.mem_cons.1 hp with rfl | hp
      · exact hky w' hw'
      · exact G.keepY p hp w' (fun z hz hi => hw' z (hpd z hz) hi)
    · intro p hp t y hy'
      rcases List.mem_cons.1 hp with rfl | hp
      · have ht : t ∈ looksO ops h := by rw [hlo]; exact keep_mem hy'
        rcases env1 t y (keep_get hy') with ⟨z, hz, h1, h2⟩ | ⟨h1, h2⟩
        · exact .inl ⟨z, by simp [hz], h1, (hpq z hz).r1 t h1 ht, h2⟩
        · refine .inr ⟨h1, fun z hz hd => ?_⟩
          rcases List.mem_cons.1 hz with rfl | hz
          · exact hirr h (by rw [hq]; simp)
          · exact absurd hd (h2 z hz)
      · rcases G.link p hp t y hy' with ⟨z, hz, h1, h2, h3⟩ | ⟨h1, h2⟩
        · exact .inl ⟨z, by simp [hz], h1, h2, h3⟩
        · refine .inr ⟨h1, fun z hz hd => ?_⟩
          rcases List.mem_cons.1 hz with rfl | hz
          · exact (hpq p hp).fwd
          · exact h2 z hz hd
    · intro p hp t y hy'
      rcases List.mem_cons.1 hp with rfl | hp
      · show t ∈ looksO ops h
        rw [hlo]; exact keep_mem hy'
      · exact G.linkL p hp t y hy'
    · intro p hp d hd
      rcases List.mem_cons.1 hp with rfl | hp
      · exact hdl d (by rw [← hdo]; exact hd)
      · exact G.dlt p hp d hd
  rcases hcase with ⟨hgo, hw⟩ | ⟨hsk, hw⟩
  · unfold canGo at hgo
    simp only at hgo
    split at hgo
    · rename_i hk
      obtain ⟨x, hK, hall⟩ := vcOp_pure (by rw [hk]) hgo
      obtain ⟨s', hcan, hds', hget, hdl⟩ := putS_inv hK
      have hY : ∀ w', Yld P n ops k ⟨h, x, keep s1.e (looks ops o)⟩ w' := by
        intro w' r a' K hA hKa
        refine wpOp_wanted ho (hw a' hA) (Oper.wpIn_mono ?_ (vcOp_ok (K := fun x' w'' => x' = x ∧ w'' = w') hT hA (fun _ _ hf => hf.elim) (hall _ (fun _ _ => False) w' ⟨rfl, rfl⟩)))
        rintro a'' w'' ⟨x', rfl, rfl, rfl⟩
        rw [dstO_eq ho] at hKa
        exact hKa
      exact fin x s' pd hcan hds' hget (fun z hz => hz) (fun w' _ => hY w') (hY w) hdl
    · rename_i hk
      have hld : ∃ t b, o.op = .load t b := by
        obtain ⟨dst, op, type, pos, after, guard⟩ := o
        cases op <;> simp only [okOf] at hk <;> first | exact ⟨_, _, rfl⟩ | (simp at hk; done) | skip
        all_goals (split at hk <;> simp at hk)
      obtain ⟨t, b, hop⟩ := hld
      obtain ⟨x, ti, v, hK, h1, h2, h3, hall⟩ := vcOp_read hop hgo
      obtain ⟨s', hcan, hds', hget, hdl⟩ := putS_inv hK
      have hpd : pdOf T o (keep s1.e (looks ops o)) h x pd = ⟨h, ti.kind.agg, v, x.val⟩ :: pd := by
        simp only [pdOf, hop, h1, h2]
      rw [hpd] at hcan
      have hY : ∀ w', rkP ⟨0, ti.kind.agg, v, x.val⟩ w' → Yld P n ops k ⟨h, x, keep s1.e (looks ops o)⟩ w' := by
        intro w' hr r a' K hA hKa
        refine wpOp_wanted ho (hw a' hA) (Oper.wpIn_mono ?_ (vcOp_ok (K := fun x' w'' => x' = x ∧ w'' = w') hT hA (fun _ _ hf => hf.elim) (hall _ (fun _ _ => False) w' hr ⟨rfl, rfl⟩)))
        rintro a'' w'' ⟨x', rfl, rfl, rfl⟩
        rw [dstO_eq ho] at hKa
        exact hKa
      exact fin x s' _ hcan hds' hget (fun z hz => List.mem_cons_of_mem _ hz) (fun w' hw' => hY w' (hw' ⟨h, ti.kind.agg, v, x.val⟩ (List.mem_cons_self ..) rfl)) (hY w h3) hdl
    · rename_i hk
      exfalso
      simp [isEffO, ho, hk] at hne
    · exact hgo.elim
  · obtain ⟨s', hcan, hds', hget, hdl⟩ := putS_inv hsk
    have hY : ∀ w', Yld P n ops k ⟨h, .u, keep s1.e (looks ops o)⟩ w' := by
      intro w' r a' K hA hKa
      refine wpOp_unwanted ho (hw a' hA) ?_
      rw [dstO_eq ho] at hKa
      exact hKa
    exact fin .u s' pd hcan hds' hget (fun z hz => hz) (fun w' _ => hY w') (hY w) hdl

theorem base_put (hs0 : ∀ t x, s0.e.get t = some x → ∀ i, dstO ops i ≠ some t) {a : Act} (h : R n a s0) (i : Nat) (v : Value) : R n (a.put (dstO ops i) v) s0 :=
  ⟨fun t x hx => by rw [put_get _ _ _ _ (hs0 t x hx i)]; exact h.e t x hx, by rw [size_put]; exact h.size, by rw [put_ds]; exact h.ds⟩

/-- What was done in thought is done. -/
theorem Good.take {r : Option Nat} (hs0 : ∀ t x, s0.e.get t = some x → ∀ i, dstO ops i ≠ some t) {ord : List Nat} (hord : ord.Pairwise (PairOk ops A)) {listed : Array Bool} {a : Act} {w : World} {pend : List Item} {rest : List Nat} {s : S} {pd : List Pd}
    (G : Good P T n ops A k s0 ord listed a w pend rest s pd) {i : Nat} (hi : i ∈ Region.ready .any ops listed) (hpre : ∀ z, pre A z i → Ls listed z) {it : Item} (hit : it ∈ pend) (hii : it.i = i) :
    wpOpIn (fe r) 0 P ops (k.toQ n) i (fun a' w' => ∃ pend' s' pd', Good P T n ops A k s0 ord (listed.setIfInBounds i true) a' w' pend' rest s' pd') a w := by
  obtain ⟨o, ho, hnl, hpl⟩ := ready_mem G.size hi
  obtain ⟨q, hq, hqp⟩ := G.suf
  have hilt : i < ops.size := by
    rcases Nat.lt_or_ge i ops.size with h | h
    · exact h
    · simp [Array.getElem?_eq_none h] at ho
  have hset : ∀ j, Ls (listed.setIfInBounds i true) j ↔ (j = i ∨ Ls listed j) := by
    intro j
    simp only [Ls, Array.getElem?_setIfInBounds]
    by_cases hj : i = j
    · subst hj; simp [G.size, hilt]
    · simp [hj, Ne.symm hj]
  -- two of them, in one order or the other
  have hpw := hord
  rw [hq, List.pairwise_append] at hpw
  have hiq : i ∈ q := by rw [← hii]; exact hqp it hit
  have hpair : ∀ p ∈ pend, p.i ≠ i → PairOk ops A p.i i ∨ PairOk ops A i p.i := fun p hp hne => pair_or hpw.1 (hqp p hp) hiq hne
  have hdne : ∀ p ∈ pend, p.i ≠ i → ∀ t, dstO ops i = some t → dstO ops p.i ≠ some t := by
    intro p hp hne t ht hpt
    rcases hpair p hp hne with h | h
    · exact h.dst t hpt ht
    · exact h.dst t ht hpt
  have hagree : Agree a it.e := by
    intro t x hx
    rcases G.link it hit t x hx with ⟨z, hz, h1, h2, h3⟩ | ⟨h1, _⟩
    · rw [hii] at h2
      exact absurd (hpre _ h2) (G.pendU z hz)
    · exact h1
  have := G.yld it hit r a (fun a' w' => ∃ pend' s' pd', Good P T n ops A k s0 ord (listed.setIfInBounds i true) a' w' pend' rest s' pd') hagree
  rw [hii] at this
  refine this ⟨pend.filter (fun p => p.i != i), s, pd, ?_⟩
  have hmem : ∀ p, p ∈ pend.filter (fun p => p.i != i) ↔ p ∈ pend ∧ p.i ≠ i := by
    intro p
    simp
  refine ⟨by simp [G.size], by rw [size_put]; exact G.asize, base_put hs0 G.base _ _, by rw [put_ds]; exact G.ads, ?_, ?_, ?_, ⟨q, hq, fun p hp => hqp p ((hmem p).1 hp).1⟩, ?_, ?_, G.can, fun p hp => G.yld p ((hmem p).1 hp).1, fun p hp => G.keepY p ((hmem p).1 hp).1, ?_,
    fun p hp => G.linkL p ((hmem p).1 hp).1, fun p hp => G.dlt p ((hmem p).1 hp).1⟩
  · intro j hj
    rw [hset]
    rcases G.part j hj with h | ⟨p, hp, h⟩ | h
    · exact .inl (.inr h)
    · by_cases hji : j = i
      · exact .inl (.inl hji)
      · exact .inr (.inl ⟨p, (hmem p).2 ⟨hp, by rw [h]; exact hji⟩, h⟩)
    · exact .inr (.inr h)
  · intro j hj
    rw [hset]
    rintro (rfl | h)
    · exact (hpw.2.2 _ hiq _ hj).ne rfl
    · exact G.restU j hj h
  · intro p hp
    rw [hset]
    rintro (h | h)
    · exact ((hmem p).1 hp).2 h
    · exact G.pendU p ((hmem p).1 hp).1 h
  · exact List.Nodup.sublist (List.Sublist.map _ List.filter_sublist) G.pnd
  · intro t x hx
    rcases G.env t x hx with ⟨p, hp, h1, h2⟩ | ⟨h1, h2⟩
    · by_cases hpi : p.i = i
      · have : p = it := item_eq G.pnd hp hit (by rw [hpi, hii])
        subst this
        rw [hpi] at h1
        have hlt := G.dlt p hp t (by rw [hpi]; exact h1)
        refine .inr ⟨?_, fun z hz => hdne z ((hmem z).1 hz).1 ((hmem z).1 hz).2 t h1⟩
        rw [h1, put_get_same _ _ _ (by rw [G.asize]; exact hlt), h2]
      · exact .inl ⟨p, (hmem p).2 ⟨hp, hpi⟩, h1, h2⟩
    · refine .inr ⟨?_, fun z hz => h2 z ((hmem z).1 hz).1⟩
      rw [put_get _ _ _ _ (by rw [← hii]; exact h2 it hit)]
      exact h1
  · intro p hp t x hx
    obtain ⟨hp1, hp2⟩ := (hmem p).1 hp
    rcases G.link p hp1 t x hx with ⟨z, hz, h1, h2, h3⟩ | ⟨h1, h2⟩
    · by_cases hzi : z.i = i
      · have : z = it := item_eq G.pnd hz hit (by rw [hzi, hii])
        subst this
        have hlt := G.dlt z hz t h1
        rw [hzi] at h1
        refine .inr ⟨?_, fun y hy hyt => absurd hyt (hdne y ((hmem y).1 hy).1 ((hmem y).1 hy).2 t h1)⟩
        rw [h1, put_get_same _ _ _ (by rw [G.asize]; exact hlt), h3]
      · exact .inl ⟨z, (hmem z).2 ⟨hz, hzi⟩, h1, h2, h3⟩
    · refine .inr ⟨?_, fun z hz => h2 z ((hmem z).1 hz).1⟩
      by_cases hdt : dstO ops i = some t
      · exfalso
        have hno : ¬ pre A i p.i := by rw [← hii]; exact h2 it hit (by rw [hii]; exact hdt)
        have hl := G.linkL p hp1 t x hx
        rcases hpair p hp1 hp2 with h | h
        · exact G.pendU p hp1 (hpre _ (h.r2 t hdt hl))
        · exact hno (h.r1 t hdt hl)
      · rw [put_get _ _ _ _ hdt]
        exact h1

/-- An effect is done. -/
theorem Good.effect {r : Option Nat} (hT : Tab.ok P T) (hs0 : ∀ t x, s0.e.get t = some x → ∀ i, dstO ops i ≠ some t) {ord : List Nat} (hord : ord.Pairwise (PairOk ops A)) {listed : Array Bool} {a : Act} {w : World} {pend : List Item} {i : Nat} {rest : List Nat} {s : S} {pd : List Pd}
    (G : Good P T n ops A k s0 ord listed a w pend (i :: rest) s pd) (hi : i ∈ Region.ready .any ops listed) (hpre : ∀ z, pre A z i → Ls listed z) (heff : isEffO ops i = true) :
    wpOpIn (fe r) 0 P ops (k.toQ n) i (fun a' w' => ∃ pend' rest' s' pd', Good P T n ops A k s0 ord (listed.setIfInBounds i true) a' w' pend' rest' s' pd') a w := by
  obtain ⟨o', ho', hnl, hpl⟩ := ready_mem G.size hi
  obtain ⟨q, hq, hqp⟩ := G.suf
  have hilt : i < ops.size := by
    rcases Nat.lt_or_ge i ops.size with h | h
    · exact h
    · simp [Array.getElem?_eq_none h] at ho'
  have hset : ∀ j, Ls (listed.setIfInBounds i true) j ↔ (j = i ∨ Ls listed j) := by
    intro j
    simp only [Ls, Array.getElem?_setIfInBounds]
    by_cases hj : i = j
    · subst hj; simp [G.size, hilt]
    · simp [hj, Ne.symm hj]
  have hpw := hord
  rw [hq, List.pairwise_append] at hpw
  have hpi : ∀ p ∈ pend, PairOk ops A p.i i := fun p hp => hpw.2.2 _ (hqp p hp) i (by simp)
  obtain ⟨o, s1, ho, hds, henv, hcase⟩ := can_cases G.can
  have hoo : o' = o := by rw [ho'] at ho; injection ho
  subst hoo
  have hlo := looksO_eq ho
  have hdo := dstO_eq ho
  have env1 : ∀ t x, s1.e.get t = some x → (∃ p ∈ pend, dstO ops p.i = some t ∧ x.val = p.x.val) ∨ (a.tmps[t]? = some x.val ∧ ∀ p ∈ pend, dstO ops p.i ≠ some t) := by
    intro t x hx
    obtain ⟨x0, h0, hv⟩ := henv t x hx
    rw [hv]
    exact G.env t x0 h0
  have hA : Agree a (keep s1.e (looks ops o')) := by
    intro t x hx
    have ht : t ∈ looksO ops i := by rw [hlo]; exact keep_mem hx
    rcases env1 t x (keep_get hx) with ⟨z, hz, h1, h2⟩ | ⟨h1, _⟩
    · exact absurd (hpre _ ((hpi z hz).r1 t h1 ht)) (G.pendU z hz)
    · exact h1
  -- the effect writes no slot that a thing done in thought looks at
  have hfree : ∀ p ∈ pend, ∀ t x, p.e.get t = some x → dstO ops i ≠ some t := by
    intro p hp t x hx hd
    exact G.pendU p hp (hpre _ ((hpi p hp).r2 t hd (G.linkL p hp t x hx)))
  have fin : ∀ (x : EV) (s' : S) (w' : World), vcCan P T n ops A rest s' pd k.nrm (k.pnc s0) w' → s'.ds = s1.ds →
      (∀ t y, s'.e.get t = some y → (o'.dst = some t ∧ y = x) ∨ (o'.dst ≠ some t ∧ s1.e.get t = some y)) → (∀ d, o'.dst = some d → d < n) →
      (∀ p ∈ pend, Yld P n ops k p w') → ∃ pend' rest' s' pd', Good P T n ops A k s0 ord (listed.setIfInBounds i true) (a.put o'.dst x.val) w' pend' rest' s' pd' := by
    intro x s' w' hcan hds' hget hdl hy
    refine ⟨pend, rest, s', pd, by simp [G.size], by rw [size_put]; exact G.asize, by rw [← hdo]; exact base_put hs0 G.base _ _, by rw [put_ds, hds', hds]; exact G.ads, ?_, ?_, ?_, ⟨q ++ [i], by rw [hq]; simp, fun p hp => by simp [hqp p hp]⟩, G.pnd, ?_, hcan, hy, G.keepY, ?_, G.linkL, G.dlt⟩
    · intro j hj
      rw [hset]
      rcases G.part j hj with h | h | h
      · exact .inl (.inr h)
      · exact .inr (.inl h)
      · rcases List.mem_cons.1 h with rfl | h
        · exact .inl (.inl rfl)
        · exact .inr (.inr h)
    · intro j hj
      rw [hset]
      rintro (rfl | h)
      · have := hpw.2.1
        rw [List.pairwise_cons] at this
        exact (this.1 _ hj).ne rfl
      · exact G.restU j (by simp [hj]) h
    · intro p hp
      rw [hset]
      rintro (h | h)
      · exact (hpi p hp).ne h
      · exact G.pendU p hp h
    · intro t y hy'
      rcases hget t y hy' with ⟨hd, rfl⟩ | ⟨hd, hg⟩
      · refine .inr ⟨?_, fun p hp hpt => (hpi p hp).dst t hpt (by rw [hdo]; exact hd)⟩
        rw [hd, put_get_same _ _ _ (by rw [G.asize]; exact hdl t hd)]
      · rcases env1 t y hg with ⟨p, hp, h1, h2⟩ | ⟨h1, h2⟩
        · exact .inl ⟨p, hp, h1, h2⟩
        · refine .inr ⟨?_, h2⟩
          rw [put_get _ _ _ _ hd]
          exact h1
    · intro p hp t y hy'
      rcases G.link p hp t y hy' with h | ⟨h1, h2⟩
      · exact .inl h
      · refine .inr ⟨?_, h2⟩
        rw [put_get _ _ _ _ (by rw [← hdo]; exact hfree p hp t y hy')]
        exact h1
  rcases hcase with ⟨hgo, hw⟩ | ⟨hsk, hw⟩
  · unfold canGo at hgo
    simp only at hgo
    have hk : okOf o'.op = .eff := by
      simp only [isEffO, ho] at heff
      split at heff
      · assumption
      · simp at heff
    rw [hk] at hgo
    simp only at hgo
    have hR : ∀ ch w', k.pnc s0 ch w' → (k.toQ n) (.panic ch) a w' := fun ch w' hp => ⟨s0, G.base, hp⟩
    refine wpOp_wanted ho (hw a hA) (Oper.wpIn_mono ?_ (vcOp_ok hT hA hR hgo))
    rintro a'' w'' ⟨x, rfl, hx⟩
    obtain ⟨hK, hr⟩ := rks_ok hx
    obtain ⟨s', hcan, hds', hget, hdl⟩ := putS_inv hK
    refine fin x s' w'' hcan hds' hget hdl (fun p hp => G.keepY p hp w'' (fun z hz hzi => hr z hz ?_))
    rw [hzi]
    cases hb : (A.getD i 0).testBit p.i with
    | false => rfl
    | true => exact absurd (hpre _ hb) (G.pendU p hp)
  · obtain ⟨s', hcan, hds', hget, hdl⟩ := putS_inv hsk
    exact wpOp_unwanted ho (hw a hA) (fin .u s' w hcan hds' hget hdl (fun p hp => G.yld p hp))


/-- Of an order that is drawn: one thing after the other, each one ready. -/
def SL (ops : Array Oper) : Array Bool → List Nat → Prop
  | listed, [] => Region.ready .any ops listed = []
  | listed, i :: l => i ∈ Region.ready .any ops listed ∧ SL ops (listed.setIfInBounds i true) l

theorem SL_go : ∀ (fuel t : Nat) (listed : Array Bool), listed.size = ops.size → (listed.toList.filter (fun b => !b)).length = fuel → SL ops listed (Region.linearise.go .any ops fuel t listed []) := by
  intro fuel
  induction fuel with
  | zero =>
    intro t listed hs hf
    simp only [Region.linearise.go, List.reverse_nil, SL]
    cases hr : Region.ready .any ops listed with
    | nil => rfl
    | cons i l =>
      exfalso
      obtain ⟨o, ho, hnl, _⟩ := ready_mem hs (i := i) (by rw [hr]; simp)
      have hi : i < listed.size := by
        rw [hs]
        rcases Nat.lt_or_ge i ops.size with h | h
        · exact h
        · simp [Array.getElem?_eq_none h] at ho
      have hfalse : listed[i] = false := by
        cases hb : listed[i] with
        | false => rfl
        | true => exact absurd (by simp [Ls, Array.getElem?_eq_getElem hi, hb]) hnl
      have : false ∈ listed.toList.filter (fun b => !b) := by
        rw [List.mem_filter]
        exact ⟨by rw [← hfalse]; simp, rfl⟩
      rw [List.eq_nil_of_length_eq_zero hf] at this
      simp at this
  | succ fuel ih =>
    intro t listed hs hf
    simp only [Region.linearise.go]
    change SL ops listed (match (Region.ready .any ops listed)[t % (Region.ready .any ops listed).length]? with
      | some i => Region.linearise.go .any ops fuel (t / (Region.ready .any ops listed).length) (listed.setIfInBounds i true) [i]
      | none => [].reverse)
    cases hi : (Region.ready .any ops listed)[t % (Region.ready .any ops listed).length]? with
    | none =>
      simp only [List.reverse_nil, SL]
      cases hr : Region.ready .any ops listed with
      | nil => rfl
      | cons x xs =>
        rw [hr] at hi
        have hlt : t % (x :: xs).length < (x :: xs).length := Nat.mod_lt _ (by simp)
        simp at hi
        simp at hlt
        omega
    | some i =>
      simp only []
      rw [linearise_go_acc, List.reverse_singleton, List.singleton_append]
      have hi := List.mem_of_getElem? hi
      refine ⟨hi, ih _ _ (by simpa using hs) ?_⟩
      obtain ⟨o, ho, hnl, hpl⟩ := ready_mem hs hi
      have hilt : i < ops.size := by
        rcases Nat.lt_or_ge i ops.size with h | h
        · exact h
        · simp [Array.getElem?_eq_none h] at ho
      have hi' : i < listed.toList.length := by simpa [hs] using hilt
      have hfalse : listed.toList[i] = false := by
        cases hb : listed.toList[i] with
        | false => rfl
        | true => exact absurd (by simp only [Ls]; rw [← Array.getElem?_toList, List.getElem?_eq_getElem hi', hb]) hnl
      rw [Array.toList_setIfInBounds]
      have key : ∀ (l : List Bool) (j : Nat) (hj : j < l.length), l[j] = false → ((l.set j true).filter (fun b => !b)).length + 1 = (l.filter (fun b => !b)).length := by
        intro l
        induction l with
        | nil => intro j hj; simp at hj
        | cons b l ihl =>
          intro j hj hb
          cases j with
          | zero => simp only [List.getElem_cons_zero] at hb; subst hb; simp
          | succ j =>
            have := ihl j (by simpa using hj) (by simpa using hb)
            cases b <;> simp_all
      have := key _ _ hi' hfalse
      omega

/-- An order in which what must come before comes before. -/
def Resp (A l : List Nat) : Prop := ∀ p i q, l = p ++ i :: q → ∀ z, pre A z i → z ∈ p

theorem Ls_set {listed : Array Bool} {i j : Nat} (hi : i < listed.size) : Ls (listed.setIfInBounds i true) j ↔ (j = i ∨ Ls listed j) := by
  simp only [Ls, Array.getElem?_setIfInBounds]
  by_cases hj : i = j
  · subst hj; simp [hi]
  · simp [hj, Ne.symm hj]

theorem ready_lt {listed : Array Bool} (hs : listed.size = ops.size) {i : Nat} (h : i ∈ Region.ready .any ops listed) : i < listed.size := by
  obtain ⟨o, ho, _⟩ := ready_mem hs h
  rw [hs]
  rcases Nat.lt_or_ge i ops.size with h | h
  · exact h
  · simp [Array.getElem?_eq_none h] at ho

theorem SL_fresh : ∀ {l : List Nat} {listed : Array Bool}, listed.size = ops.size → SL ops listed l → l.Nodup ∧ ∀ i ∈ l, ¬ Ls listed i := by
  intro l
  induction l with
  | nil => intro listed hs h; exact ⟨.nil, fun i hi => by simp at hi⟩
  | cons i l ih =>
    intro listed hs h
    obtain ⟨h1, h2⟩ := ih (by simpa using hs) h.2
    have hlt := ready_lt hs h.1
    obtain ⟨o, ho, hnl, _⟩ := ready_mem hs h.1
    refine ⟨List.nodup_cons.2 ⟨fun hm => h2 i hm ((Ls_set hlt).2 (.inl rfl)), h1⟩, fun j hj => ?_⟩
    rcases List.mem_cons.1 hj with rfl | hj
    · exact hnl
    · exact fun hl => h2 j hj ((Ls_set hlt).2 (.inr hl))

theorem SL_resp : ∀ {l p : List Nat} {listed : Array Bool}, listed.size = ops.size → Closed ops (Ls listed) → (∀ i, Ls listed i → i ∈ p) → SL ops listed l →
    ∀ p' i q, l = p' ++ i :: q → ∀ z, pre (ancGo ops.toList []) z i → z ∈ p ++ p' := by
  intro l
  induction l with
  | nil => intro p listed hs hc hp h p' i q he; simp at he
  | cons j l ih =>
    intro p listed hs hc hp h p' i q he z hz
    have hlt := ready_lt hs h.1
    obtain ⟨o, ho, hnl, hpl⟩ := ready_mem hs h.1
    cases p' with
    | nil =>
      simp only [List.nil_append, List.cons.injEq] at he
      obtain ⟨rfl, rfl⟩ := he
      simpa using hp z (anc_sound hc j o ho hpl z hz)
    | cons j' p' =>
      simp only [List.cons_append, List.cons.injEq] at he
      obtain ⟨rfl, he⟩ := he
      have hc' : Closed ops (Ls (listed.setIfInBounds j true)) := by
        intro k ok hok hk q hq
        rw [Ls_set hlt] at hk ⊢
        rcases hk with rfl | hk
        · rw [ho] at hok; injection hok with hok; subst hok; exact .inr (hpl q hq)
        · exact .inr (hc k ok hok hk q hq)
      have := ih (p := p ++ [j]) (by simpa using hs) hc' (fun k hk => by
        rcases (Ls_set hlt).1 hk with rfl | hk
        · simp
        · simp [hp k hk]) h.2 p' i q he z hz
      simpa using this

theorem addGo_get (m y : Nat) : ∀ (l : List Nat) (j0 j : Nat), (addGo m y l j0).getD j 0 = (if (j0 + j = y ∨ (l.getD j 0).testBit y = true) ∧ j < l.length then l.getD j 0 ||| m else l.getD j 0) := by
  intro l
  induction l with
  | nil => intro j0 j; simp [addGo]
  | cons a l ih =>
    intro j0 j
    cases j with
    | zero =>
      simp only [addGo, List.getD_cons_zero, Nat.add_zero, List.length_cons, Nat.zero_lt_succ, and_true]
      by_cases h1 : j0 = y
      · subst h1; simp
      · by_cases h2 : a.testBit y = true
        · simp [h2]
        · have hb : Nat.beq j0 y = false := by
            cases h : Nat.beq j0 y with
            | false => rfl
            | true => exact absurd (Nat.eq_of_beq_eq_true h) h1
          simp [h1, h2, hb]
    | succ j =>
      simp only [addGo, List.getD_cons_succ, List.length_cons, Nat.add_lt_add_iff_right]
      rw [ih, show j0 + 1 + j = j0 + (j + 1) from by omega]

theorem split_nodup {l p q p' q' : List Nat} {y : Nat} (hn : l.Nodup) (h1 : l = p ++ y :: q) (h2 : l = p' ++ y :: q') : p = p' := by
  induction p generalizing l p' with
  | nil =>
    cases p' with
    | nil => rfl
    | cons a p' =>
      subst h1
      simp only [List.nil_append, List.cons_append, List.cons.injEq] at h2
      obtain ⟨rfl, rfl⟩ := h2
      simp at hn
  | cons a p ih =>
    cases p' with
    | nil =>
      subst h1
      simp only [List.nil_append, List.cons_append, List.cons.injEq] at h2
      obtain ⟨rfl, rfl⟩ := h2
      simp at hn
    | cons a' p' =>
      subst h1
      simp only [List.cons_append, List.cons.injEq] at h2
      obtain ⟨rfl, h2⟩ := h2
      rw [ih (l := p ++ y :: q) (by simp only [List.cons_append, List.nodup_cons] at hn; exact hn.2) rfl h2]

theorem Resp.add {l : List Nat} (hn : l.Nodup) (h : Resp A l) {x y : Nat} (hxy : ∀ p q, l = p ++ y :: q → x ∈ p) : Resp (addA A x y) l := by
  intro p i q he z hz
  have hx : ∀ p q, l = p ++ y :: q → ∀ z, (1 <<< x ||| A.getD x 0).testBit z = true → z ∈ p := by
    intro p q he z hz
    have hxp := hxy p q he
    rw [Nat.testBit_or, Bool.or_eq_true] at hz
    rcases hz with hz | hz
    · rw [Nat.one_shiftLeft, Nat.testBit_two_pow] at hz
      rw [← of_decide_eq_true hz]; exact hxp
    · obtain ⟨p1, q1, rfl⟩ := List.append_of_mem hxp
      have := h p1 x (q1 ++ y :: q) (by rw [he]; simp) z hz
      simp [this]
  simp only [pre, addA, addGo_get, Nat.zero_add] at hz
  split at hz
  · rename_i hc
    rw [Nat.testBit_or, Bool.or_eq_true] at hz
    rcases hz with hz | hz
    · exact h p i q he z hz
    · rcases hc.1 with rfl | hb
      · exact hx p q he z hz
      · have hy := h p i q he y hb
        obtain ⟨p1, q1, rfl⟩ := List.append_of_mem hy
        have := hx p1 (q1 ++ i :: q) (by rw [he]; simp) z hz
        simp [this]
  · exact h p i q he z hz

theorem Resp.either {l : List Nat} (hn : l.Nodup) (h : Resp A l) (x y : Nat) (hne : x ≠ y) : Resp (addA A x y) l ∨ Resp (addA A y x) l := by
  by_cases hy : y ∈ l
  · obtain ⟨p, q, hpq⟩ := List.append_of_mem hy
    by_cases hx : x ∈ p
    · exact .inl (h.add hn fun p' q' h' => by rw [split_nodup hn h' hpq]; exact hx)
    · refine .inr (h.add hn fun p' q' h' => ?_)
      have hxq : x ∈ q := by
        have : x ∈ l := by rw [h']; simp
        rw [hpq] at this
        simp only [List.mem_append, List.mem_cons] at this
        rcases this with h1 | h1 | h1
        · exact absurd h1 hx
        · exact absurd h1 hne
        · exact h1
      obtain ⟨q1, q2, rfl⟩ := List.append_of_mem hxq
      have : p' = p ++ y :: q1 := split_nodup (q' := q2) hn h' (by rw [hpq]; simp)
      rw [this]; simp
  · exact .inl (h.add hn fun p' q' h' => absurd (by rw [h']; simp) hy)

/-- Along an order that is drawn. -/
theorem Good.path {r : Option Nat} (hT : Tab.ok P T) (hs0 : ∀ t x, s0.e.get t = some x → ∀ i, dstO ops i ≠ some t) (hlt : ∀ j o, ops[j]? = some o → ∀ p ∈ predsE o.after.toList, p < j) {ord : List Nat} (hord : ord.Pairwise (PairOk ops A)) (hirr : ∀ i ∈ ord, ¬ pre A i i) :
    ∀ (l : List Nat) (listed : Array Bool) (a : Act) (w : World) (pend : List Item) (rest : List Nat) (s : S) (pd : List Pd), Good P T n ops A k s0 ord listed a w pend rest s pd → SL ops listed l →
      (∀ p i q, l = p ++ i :: q → ∀ z, pre A z i → Ls listed z ∨ z ∈ p) → wpOpsIn (fe r) 0 P ops (k.toQ n) l a w := by
  intro l
  induction l with
  | nil =>
    intro listed a w pend rest s pd G h0 _
    have hall := ready_nil G.size hlt h0
    have hr : rest = [] := by
      cases rest with
      | nil => rfl
      | cons i rest =>
        exfalso
        have hc := G.can
        obtain ⟨o, s1, ho, _⟩ := can_cases hc
        have hi : i < ops.size := by
          rcases Nat.lt_or_ge i ops.size with h | h
          · exact h
          · simp [Array.getElem?_eq_none h] at ho
        exact G.restU i (by simp) (hall i hi)
    subst hr
    simp only [wpOpsIn]
    refine ⟨s, ⟨?_, G.asize, G.ads⟩, G.can⟩
    intro t x hx
    rcases G.env t x hx with ⟨p, hp, h1, _⟩ | ⟨h1, _⟩
    · exfalso
      have hi : p.i < ops.size := by
        rcases Nat.lt_or_ge p.i ops.size with h | h
        · exact h
        · simp [dstO, Array.getElem?_eq_none h] at h1
      exact G.pendU p hp (hall _ hi)
    · exact h1
  | cons i l ih =>
    intro listed a w pend rest s pd G hsl hresp
    have hi := hsl.1
    obtain ⟨o, ho, hnl, hpl⟩ := ready_mem G.size hi
    have hilt : i < ops.size := by
      rcases Nat.lt_or_ge i ops.size with h | h
      · exact h
      · simp [Array.getElem?_eq_none h] at ho
    have hpre : ∀ z, pre A z i → Ls listed z := fun z hz => by
      rcases hresp [] i l rfl z hz with h | h
      · exact h
      · simp at h
    -- what must come is brought to the head
    have bring : ∀ (m : Nat) (pend : List Item) (rest : List Nat) (s : S) (pd : List Pd), rest.length = m → Good P T n ops A k s0 ord listed a w pend rest s pd →
        wpOpIn (fe r) 0 P ops (k.toQ n) i (fun a' w' => ∃ pend' rest' s' pd', Good P T n ops A k s0 ord (listed.setIfInBounds i true) a' w' pend' rest' s' pd') a w := by
      intro m
      induction m with
      | zero =>
        intro pend rest s pd hm G
        have hr := List.eq_nil_of_length_eq_zero hm
        subst hr
        rcases G.part i hilt with h | ⟨p, hp, h⟩ | h
        · exact absurd h hnl
        · exact wpOpIn_mono (fun a' w' ⟨p', s', d', g⟩ => ⟨p', _, s', d', g⟩) (G.take hs0 hord hi hpre hp h)
        · simp at h
      | succ m ihm =>
        intro pend rest s pd hm G
        rcases G.part i hilt with h | ⟨p, hp, h⟩ | h
        · exact absurd h hnl
        · exact wpOpIn_mono (fun a' w' ⟨p', s', d', g⟩ => ⟨p', _, s', d', g⟩) (G.take hs0 hord hi hpre hp h)
        · cases rest with
          | nil => simp at h
          | cons h0 rest =>
            cases he : isEffO ops h0 with
            | false =>
              obtain ⟨it, s', pd', _, G'⟩ := G.flush hT hirr hord he
              exact ihm _ rest s' pd' (by simpa using hm) G'
            | true =>
              rcases List.mem_cons.1 h with rfl | h
              · exact G.effect hT hs0 hord hi hpre he
              · exfalso
                obtain ⟨q, hq, _⟩ := G.suf
                have hpw := hord
                rw [hq, List.pairwise_append] at hpw
                have hp2 := hpw.2.1
                rw [List.pairwise_cons] at hp2
                exact G.restU h0 (by simp) (hpre h0 ((hp2.1 i h).eff he))
    rw [wpOpsIn_cons]
    refine wpOpIn_mono (fun a' w' ⟨p', r', s', d', g⟩ => ih _ _ _ _ _ _ _ g hsl.2 ?_) (bring _ pend rest s pd rfl G)
    intro p j q he z hz
    rcases hresp (i :: p) j q (by rw [he]; rfl) z hz with h | h
    · exact .inl ((Ls_set (by rw [G.size]; exact hilt)).2 (.inr h))
    · rcases List.mem_cons.1 h with rfl | h
      · exact .inl ((Ls_set (by rw [G.size]; exact hilt)).2 (.inl rfl))
      · exact .inr h

theorem testBit_writes {ops : List Oper} {i d : Nat} {o : Oper} (ho : ops[i]? = some o) (hd : o.dst = some d) : (writesOps ops).testBit d = true := by
  induction ops generalizing i with
  | nil => simp at ho
  | cons x l ih =>
    simp only [writesOps, Nat.testBit_or, Bool.or_eq_true]
    cases i with
    | zero =>
      simp only [List.getElem?_cons_zero, Option.some.injEq] at ho
      subst ho
      left
      simp [dstMask, hd, Nat.one_shiftLeft, Nat.testBit_two_pow]
    | succ i => exact .inr (ih (by simpa using ho))

theorem notBits_mem {m : Nat} : ∀ {n t : Nat}, t ∈ notBits m n → m.testBit t = false := by
  intro n
  induction n with
  | zero => intro t h; simp [notBits] at h
  | succ n ih =>
    intro t h
    simp only [notBits] at h
    split at h
    · exact ih h
    · rename_i hb
      rcases List.mem_cons.1 h with rfl | h
      · exact hb
      · exact ih h
end

theorem pairsGo_ne : ∀ {l : List Nat}, l.Nodup → ∀ p ∈ pairsGo l, p.1 ≠ p.2 := by
  intro l
  induction l with
  | nil => intro _ p hp; simp [pairsGo] at hp
  | cons i l ih =>
    intro hn p hp
    rw [List.nodup_cons] at hn
    simp only [pairsGo, List.mem_append, List.mem_map] at hp
    rcases hp with ⟨j, hj, rfl⟩ | hp
    · intro e; simp only at e; subst e; exact hn.1 hj
    · exact ih hn.2 p hp

/-- One of the ways told is that of the order. -/
theorem tree_ok {P : Program} {T : Tab} {n : Nat} {ops : Array Oper} {s : S} {kn : S → World → Prop} {kp : S → List PanicEntry → World → Prop} {w : World} {l : List Nat} (hn : l.Nodup) :
    ∀ (ps : List (Nat × Nat)) (A : List Nat), (∀ p ∈ ps, p.1 ≠ p.2) → Resp A l → vcTree P T n ops s kn kp w ps A →
      ∃ A', Resp A' l ∧ chk ops A' (ordGo ops A' ops.size 0) = true ∧ vcCan P T n ops A' (ordGo ops A' ops.size 0) s [] kn (kp (base n ops s)) w := by
  intro ps
  induction ps with
  | nil =>
    intro A _ hr h
    simp only [vcTree] at h
    split at h
    · rename_i hc; exact ⟨A, hr, hc, h⟩
    · exact h.elim
  | cons p ps ih =>
    intro A hp hr h
    obtain ⟨x, y⟩ := p
    simp only [vcTree] at h
    split at h
    · exact ih A (fun p hm => hp p (by simp [hm])) hr h
    · rcases hr.either hn x y (hp (x, y) (by simp)) with h1 | h1
      · exact ih _ (fun p hm => hp p (by simp [hm])) h1 h.1
      · exact ih _ (fun p hm => hp p (by simp [hm])) h1 h.2

theorem draw_ok {P : Program} {T : Tab} {n : Nat} (hm : P.follows .mixedOrders = true) (hT : Tab.ok P T) : DrawOk P n (vcDraw P T n) := by
  intro r id ops s k w a hR h
  unfold vcDraw at h
  split at h
  · rename_i h1
    have hlt : ∀ j o, ops[j]? = some o → ∀ p ∈ predsE o.after.toList, p < j := by
      intro j o ho p hp
      have := predsLt_ok ops.toList 0 h1 j o (by simpa using ho) p hp
      omega
    have hs0 : ∀ t x, (base n ops s).e.get t = some x → ∀ i, dstO ops i ≠ some t := by
      intro t x hx i hd
      have ht := notBits_mem (keep_mem hx)
      simp only [dstO, Option.bind_eq_some_iff] at hd
      obtain ⟨o, ho, hd⟩ := hd
      rw [testBit_writes (by simpa using ho) hd] at ht
      simp at ht
    have hw0 : ∀ i, ¬ Ls (Array.replicate ops.size false) i := by
      intro i hi
      simp only [Ls, Array.getElem?_replicate] at hi
      split at hi <;> simp at hi
    refine wpIn_region_draw fun t => ?_
    simp only [Region.schedule, hm, Bool.true_or, if_true]
    have hsl : SL ops (Array.replicate ops.size false) (Region.linearise .any ops t) := SL_go (ops := ops) ops.size t (Array.replicate ops.size false) (by simp) (by simp)
    have hnd := (SL_fresh (ops := ops) (by simp) hsl).1
    have hr : Resp (ancGo ops.toList []) (Region.linearise .any ops t) := by
      intro p i q he z hz
      have := SL_resp (ops := ops) (p := []) (by simp) (fun j o ho hj => absurd hj (hw0 j)) (fun i hi => absurd hi (hw0 i)) hsl p i q he z hz
      simpa using this
    obtain ⟨A, hrA, hc, hcan⟩ := tree_ok hnd (effPairs ops) _ (pairsGo_ne ((List.nodup_range).filter _)) hr h
    simp only [chk, Bool.and_eq_true, List.all_eq_true] at hc
    obtain ⟨h2, h3, h4⟩ := hc
    have hord := pairsB_ok h2
    have G : Good P T n ops A k (base n ops s) (ordGo ops A ops.size 0) (Array.replicate ops.size false) a w.drew [] (ordGo ops A ops.size 0) s [] := by
      refine ⟨by simp, hR.size, ⟨agree_keep (fun t _ x hx => hR.e t x hx), hR.size, hR.ds⟩, hR.ds, fun i hi => .inr (.inr ?_), fun i _ => hw0 i, fun p hp => by simp at hp, ⟨[], by simp, fun p hp => by simp at hp⟩, by simp,
        fun t x hx => .inr ⟨hR.e t x hx, fun p hp => by simp at hp⟩, hcan, fun p hp => by simp at hp, fun p hp => by simp at hp, fun p hp => by simp at hp, fun p hp => by simp at hp, fun p hp => by simp at hp⟩
      have := h3 i (by simpa using hi)
      simpa using this
    refine G.path hT hs0 hlt hord (fun i hi => ?_) _ _ _ _ _ _ _ _ hsl (fun p i q he z hz => .inr (hrA p i q he z hz))
    have := (h4 i hi).2.2
    simp only [pre]
    intro hb
    rw [hb] at this
    simp at this
  · exact h.elim
end Go.Vx
namespace Go.Vx
open Go

/-- What a function hands back. -/
def retV : List Value → Value
  | [v] => v
  | vs => .tuple vs.toArray

def vcRes (T : Tab) (e : Env) : List ResultVar → (List Value → Prop) → World → Prop
  | [], K, _ => K []
  | .tmp t :: rs, K, w => match e.get t with
    | some x => vcRes T e rs (fun vs => K (x.val :: vs)) w
    | none => False
  | .cell a t :: rs, K, w => match T.get t, e.get a with
    | some i, some x => (match i.kind.agg with
      | true => ldn i.size x.val (fun v w' => vcRes T e rs (fun vs => K (v :: vs)) w') w
      | false => ld x.val (fun v w' => vcRes T e rs (fun vs => K (v :: vs)) w') w)
    | _, _ => False

def resMask : List ResultVar → Nat
  | [] => 0
  | .tmp t :: l => 1 <<< t ||| resMask l
  | .cell a _ :: l => 1 <<< a ||| resMask l

def args0 : Nat → List Value → Env
  | _, [] => []
  | i, v :: vs => (i, .v v) :: args0 (i + 1) vs

def noExit : Nat → S → World → Prop := fun _ _ _ => False

def fnKont (T : Tab) (rs : List ResultVar) (R : Ending → World → Prop) : Kont where
  nrm := fun s w => (match s.ds with | [] => vcRes T s.e rs (fun vs => R (.returned (retV vs)) w) w | _ => False)
  ret := fun s w => (match s.ds with | [] => vcRes T s.e rs (fun vs => R (.returned (retV vs)) w) w | _ => False)
  ext := noExit
  gto := noExit
  pnc := fun s ch w => (match s.ds with | [] => R (.panicked ch) w | _ => False)

/-- The condition of a function without deferred calls. -/
def vcFn (P : Program) (T : Tab) (fuel : Nat) (n : Nat) (c : Code) (rs : List ResultVar) (args : List Value) (R : Ending → World → Prop) (w : World) : Prop :=
  vc P T n (vcDraw P T n) fuel c { e := args0 0 args, ds := [] } (resMask rs) (fnKont T rs R) w

section
variable {P : Program} {T : Tab} {n : Nat}

/-- One result. -/
def resOf (tmps : Array Value) : ResultVar → Sem Value
  | .tmp t => pure (tmps.getD t undef)
  | .cell a t => do loadVar t (← asAddr (tmps.getD a undef))

theorem run_results {fn : Func} {tmps : Array Value} {w : World} {vs : List Value} (h : ∀ (j : Nat) (r : ResultVar), fn.results.toList[j]? = some r → ∃ v, vs[j]? = some v ∧ (resOf tmps r).run P w = .ok v w) (hl : vs.length = fn.results.size) :
    (results fn tmps).run P w = .ok (retV vs) w := by
  have key : ∀ (rs : List ResultVar) (vs : List Value), vs.length = rs.length → (∀ (j : Nat) (r : ResultVar), rs[j]? = some r → ∃ v, vs[j]? = some v ∧ (resOf tmps r).run P w = .ok v w) → (rs.mapM (resOf tmps)).run P w = .ok vs w := by
    intro rs
    induction rs with
    | nil => intro vs hl _; simp only [List.length_nil, List.length_eq_zero_iff] at hl; subst hl; simp
    | cons r rs ih =>
      intro vs hl h
      cases vs with
      | nil => simp at hl
      | cons v vs =>
        obtain ⟨v', h1, h2⟩ := h 0 r rfl
        simp only [List.getElem?_cons_zero, Option.some.injEq] at h1
        subst h1
        have h3 := ih vs (by simpa using hl) (fun j r hj => by simpa using h (j + 1) r (by simpa using hj))
        rw [List.mapM_cons, Sem.run_bind, h2]
        simp only [Result.andThen_ok, Sem.run_bind, h3, Sem.run_pure]
  have h1 := key fn.results.toList vs (by simpa using hl) h
  have h2 : (fn.results.mapM (resOf tmps)).run P w = .ok vs.toArray w := by
    rw [Array.mapM_eq_mapM_toList]
    exact run_map_list h1
  have h3 : results fn tmps = (do
      let vs ← fn.results.mapM (resOf tmps)
      pure (if h : vs.size = 1 then vs[0] else .tuple vs)) := by
    unfold results
    congr 1
  rw [h3, Sem.run_bind, h2]
  simp only [Result.andThen_ok, Sem.run_pure]
  congr 1
  cases vs with
  | nil => rfl
  | cons v vs =>
    cases vs with
    | nil => rfl
    | cons v2 vs => rfl

theorem vcRes_ok (hT : Tab.ok P T) {tmps : Array Value} {e : Env} (hA : ∀ t x, e.get t = some x → tmps[t]? = some x.val) {w : World} : ∀ {rs : List ResultVar} {K : List Value → Prop}, vcRes T e rs K w →
    ∃ vs, K vs ∧ vs.length = rs.length ∧ ∀ (j : Nat) (r : ResultVar), rs[j]? = some r → ∃ v, vs[j]? = some v ∧ (resOf tmps r).run P w = .ok v w := by
  intro rs
  induction rs with
  | nil => intro K h; exact ⟨[], h, rfl, fun j r hj => by simp at hj⟩
  | cons r rs ih =>
    intro K h
    have step : ∀ v : Value, vcRes T e rs (fun vs => K (v :: vs)) w → (resOf tmps r).run P w = .ok v w → ∃ vs, K vs ∧ vs.length = (r :: rs).length ∧ ∀ (j : Nat) (r' : ResultVar), (r :: rs)[j]? = some r' → ∃ v, vs[j]? = some v ∧ (resOf tmps r').run P w = .ok v w := by
      intro v h hv
      obtain ⟨vs, h1, h2, h3⟩ := ih h
      refine ⟨v :: vs, h1, by simp [h2], fun j r' hj => ?_⟩
      cases j with
      | zero =>
        simp only [List.getElem?_cons_zero, Option.some.injEq] at hj
        subst hj
        exact ⟨v, rfl, hv⟩
      | succ j => simpa using h3 j r' (by simpa using hj)
    cases r with
    | tmp t =>
      simp only [vcRes] at h
      split at h
      · rename_i x hx
        exact step x.val h (by simp [resOf, hA t x hx])
      · exact h.elim
    | cell a t =>
      simp only [vcRes] at h
      split at h
      · rename_i i x hi hx
        have hA' := hA a x hx
        split at h
        · rename_i hk
          obtain ⟨ad, vs, he, hl, hc, hK⟩ := h
          refine step _ hK ?_
          have := (hT.get_ok hi).isAgg w
          rw [hk] at this
          simp [resOf, hA', he, asAddr, loadVar, this, (hT.get_ok hi).sizeOf w, run_loadCells hc hl]
        · rename_i hk
          obtain ⟨ad, v, he, hc, hK⟩ := h
          refine step _ hK ?_
          have := (hT.get_ok hi).isAgg w
          rw [hk] at this
          simp only [resOf, Array.getD_eq_getD_getElem?, hA', he, Option.getD_some, asAddr, loadVar, Sem.run_bind, Sem.run_pure, Result.andThen_ok, this, Bool.false_eq_true, if_false, run_load hc]
      · exact h.elim

theorem args0_get : ∀ (i : Nat) (vs : List Value) (t : Nat) (x : EV), (args0 i vs).get t = some x → i ≤ t ∧ vs[t - i]? = some x.val := by
  intro i vs
  induction vs generalizing i with
  | nil => intro t x h; simp [args0, Env.get] at h
  | cons v vs ih =>
    intro t x h
    simp only [args0, Env.get] at h
    split at h
    · rename_i hb
      have : i = t := Nat.eq_of_beq_eq_true hb
      subst this
      injection h with h
      subst h
      simp [EV.val]
    · rename_i hb
      obtain ⟨h1, h2⟩ := ih (i + 1) t x h
      refine ⟨by omega, ?_⟩
      rw [show t - i = (t - (i + 1)) + 1 from by omega]
      simpa using h2

theorem R_start {args : List Value} (hn : args.length ≤ n) : R n { tmps := args.toArray ++ Array.replicate (n - args.toArray.size) undef, defers := [] } { e := args0 0 args, ds := [] } := by
  refine ⟨fun t x hx => ?_, by simp; omega, rfl⟩
  obtain ⟨_, h⟩ := args0_get 0 args t x hx
  have hlt : t < args.length := by
    rcases Nat.lt_or_ge t args.length with h' | h'
    · exact h'
    · rw [List.getElem?_eq_none (by omega)] at h; simp at h
  simp only [Nat.sub_zero] at h
  rw [List.getElem?_eq_getElem hlt] at h
  injection h with h
  simp [Array.getElem?_append, hlt, h]

/-- A function does what its condition says. -/
theorem fn_ok (hm : P.follows .mixedOrders = true) (hT : Tab.ok P T) {g : FuncId} {fn : Func} {c : Code} {fuel : Nat} (hf : P.funcs[g]? = some fn) (hb : fn.body = some c) (hn : (fn.name == "runtime.NumGoroutine") = false)
    {args : List Value} (hl : args.length ≤ fn.ntmps) {Rr : Ending → World → Prop} {w : World} (h : vcFn P T fuel fn.ntmps c fn.results.toList args Rr w) : Tr P g args w Rr := by
  refine .inl ⟨⟨fn, hf, hn, by rw [hb]; rfl⟩, calls_of_wp hf hb ?_⟩
  refine wp_mono (vc_ok hT (draw_ok hm hT) fuel c _ _ _ w _ (R_start hl) h) ?_
  rintro e a' w' he
  have ret : (∃ s, R fn.ntmps a' s ∧ (match s.ds with | [] => vcRes T s.e fn.results.toList (fun vs => Rr (.returned (retV vs)) w') w' | _ => False)) → a'.defers = [] ∧ ∃ v, (results fn a'.tmps).run P w' = .ok v w' ∧ Rr (.returned v) w' := by
    rintro ⟨s, hR, h⟩
    split at h
    · rename_i hds
      obtain ⟨vs, h1, h2, h3⟩ := vcRes_ok hT hR.e h
      exact ⟨by rw [hR.ds, hds], _, run_results h3 (by simpa using h2), h1⟩
    · exact h.elim
  cases e with
  | normal => exact ret he
  | ret => exact ret he
  | exit id => obtain ⟨s, _, h⟩ := he; exact h.elim
  | goto l => obtain ⟨s, _, h⟩ := he; exact h.elim
  | panic ch =>
    obtain ⟨s, hR, h⟩ := he
    simp only [fnKont] at h
    split at h
    · rename_i hds; exact ⟨by rw [hR.ds, hds], h⟩
    · exact h.elim
  | outgrown => exact he.elim
end
end Go.Vx
namespace Go.Vx
open Go

/-- How a deferred call leaves its caller. -/
def backD (K1 : World → Prop) (K2 : List PanicEntry → World → Prop) : FrameMode → World → Prop
  | .returning, w => K1 w
  | .panicking ch, w => K2 ch w
  | .run, _ => False

/-- A deferred call is done. -/
def dl (P : Program) (d : Deferred) (u : FrameMode) (K1 : World → Prop) (K2 : List PanicEntry → World → Prop) (w : World) : Prop :=
  ∃ f cap, d.target = .fn (.func f) cap ∧ Enter P f ∧ CallsD P f (d.args ++ cap) u w fun e u' w' =>
    match e with
    | .returned _ => backD K1 K2 (settle u') w'
    | .panicked ch => backD K1 K2 (raised u' ch) w'
    | .outgrown => False

def dsK (P : Program) (u : FrameMode) (K1 : World → Prop) (K2 : List PanicEntry → World → Prop) (w : World) : List Deferred → Prop
  | [] => backD K1 K2 u w
  | [d] => dl P d u K1 K2 w
  | _ => False

def fnKontD (P : Program) (T : Tab) (rs : List ResultVar) (R : Ending → World → Prop) : Kont where
  nrm := fun s w => dsK P .returning (fun w => vcRes T s.e rs (fun vs => R (.returned (retV vs)) w) w) (fun ch w => R (.panicked ch) w) w s.ds
  ret := fun s w => dsK P .returning (fun w => vcRes T s.e rs (fun vs => R (.returned (retV vs)) w) w) (fun ch w => R (.panicked ch) w) w s.ds
  ext := noExit
  gto := noExit
  pnc := fun s ch w => dsK P (.panicking ch) (fun w => vcRes T s.e rs (fun vs => R (.returned (retV vs)) w) w) (fun ch w => R (.panicked ch) w) w s.ds

/-- The condition of a function that may defer one call. -/
def vcFnD (P : Program) (T : Tab) (fuel : Nat) (n : Nat) (c : Code) (rs : List ResultVar) (args : List Value) (R : Ending → World → Prop) (w : World) : Prop :=
  vc P T n (vcDraw P T n) fuel c { e := args0 0 args, ds := [] } (resMask rs) (fnKontD P T rs R) w

section
variable {P : Program} {T : Tab} {n : Nat}

theorem fnD_ok (hm : P.follows .mixedOrders = true) (hT : Tab.ok P T) {g : FuncId} {fn : Func} {c : Code} {fuel : Nat} (hf : P.funcs[g]? = some fn) (hb : fn.body = some c) (hn : (fn.name == "runtime.NumGoroutine") = false)
    {args : List Value} (hl : args.length ≤ fn.ntmps) {Rr : Ending → World → Prop} {w : World} (h : vcFnD P T fuel fn.ntmps c fn.results.toList args Rr w) : Tr P g args w Rr := by
  refine .inl ⟨⟨fn, hf, hn, by rw [hb]; rfl⟩, calls_of_wp_defers hf hb ?_⟩
  refine wp_mono (vc_ok hT (draw_ok hm hT) fuel c _ _ _ w _ (R_start hl) h) ?_
  have fin : ∀ (a' : Act) (s : S) (u : FrameMode) (w' : World), R fn.ntmps a' s →
      backD (fun w => vcRes T s.e fn.results.toList (fun vs => Rr (.returned (retV vs)) w) w) (fun ch w => Rr (.panicked ch) w) u w' → Leaves P fn a'.tmps Rr [] u w' := by
    intro a' s u w' hR hb
    cases u with
    | run => exact hb.elim
    | panicking ch => exact hb
    | returning =>
      obtain ⟨vs, h1, h2, h3⟩ := vcRes_ok hT hR.e hb
      exact ⟨_, run_results h3 (by simpa using h2), h1⟩
  have ret : ∀ (a' : Act) (u : FrameMode) (w' : World), u ≠ .run → (∃ s, R fn.ntmps a' s ∧ dsK P u (fun w => vcRes T s.e fn.results.toList (fun vs => Rr (.returned (retV vs)) w) w) (fun ch w => Rr (.panicked ch) w) w' s.ds) →
      Leaves P fn a'.tmps Rr a'.defers u w' := by
    rintro a' u w' hu ⟨s, hR, h⟩
    rw [hR.ds]
    unfold dsK at h
    split at h
    · rename_i hds; rw [hds]; exact fin a' s u w' hR h
    · rename_i d hds
      rw [hds]
      obtain ⟨f, cap, ht, hen, hc⟩ := h
      refine ⟨hu, .func f, cap, f, d.args ++ cap, ht, ?_, hc.mono ?_⟩
      · rw [ht]; exact hen.run _ _
      · rintro e u' w'' he
        cases e with
        | returned v => exact fin a' s _ w'' hR he
        | panicked ch => exact fin a' s _ w'' hR he
        | outgrown => exact he.elim
    · exact h.elim
  rintro e a' w' he
  cases e with
  | normal => exact ret a' .returning w' (by simp) he
  | ret => exact ret a' .returning w' (by simp) he
  | exit id => obtain ⟨s, _, h⟩ := he; exact h.elim
  | goto l => obtain ⟨s, _, h⟩ := he; exact h.elim
  | panic ch => exact ret a' (.panicking ch) w' (by simp) he
  | outgrown => exact he.elim

/-- What recover hands out, and how the caller is left. -/
def recV : FrameMode → Value × FrameMode
  | .panicking ({ v, recovered := false, goexit := false } :: older) => (v, .panicking ({ v, recovered := true } :: older))
  | u => (.nilIface, u)

theorem recoverD_recV (c₀ : Frame) (cs : List Frame) : recoverD (c₀ :: cs) = some ((recV c₀.mode).1, { c₀ with mode := (recV c₀.mode).2 } :: cs) ∨ (recoverD (c₀ :: cs) = none ∧ recV c₀.mode = (.nilIface, c₀.mode)) := by
  obtain ⟨fn, tmps, todo, defers, mode, kind, ro⟩ := c₀
  cases mode with
  | run => exact .inr ⟨rfl, rfl⟩
  | returning => exact .inr ⟨rfl, rfl⟩
  | panicking ch =>
    cases ch with
    | nil => exact .inr ⟨rfl, rfl⟩
    | cons e older =>
      obtain ⟨v, rec, ge⟩ := e
      cases rec
      · cases ge
        · exact .inl rfl
        · exact .inr ⟨rfl, rfl⟩
      · exact .inr ⟨rfl, rfl⟩

/-- The condition of a deferred function that begins with recover: the rest, by what it handed out. -/
def vcRec (P : Program) (T : Tab) (fuel : Nat) (n : Nat) (d : Nat) (c : Code) (rs : List ResultVar) (args : List Value) (rv : Value) (R : Ending → World → Prop) (w : World) : Prop :=
  vc P T n (vcDraw P T n) fuel c { e := (d, .v rv) :: args0 0 args, ds := [] } (resMask rs) (fnKont T rs R) w

theorem rec_ok (hm : P.follows .mixedOrders = true) (hT : Tab.ok P T) {g : FuncId} {fn : Func} {c : Code} {fuel id : Nat} {o : Oper} {d : Nat} (hf : P.funcs[g]? = some fn) (hb : fn.body = some (.seq (.region id #[o] false) c))
    (ho : o.op = .call { callee := .builtin .recover, args := #[], argTypes := #[] }) (hd : o.dst = some d) (hg : o.guard = none) (hdn : d < fn.ntmps)
    {args : List Value} (hl : args.length ≤ fn.ntmps) {Rr : Ending → FrameMode → World → Prop} {u : FrameMode} {w : World} (h : vcRec P T fuel fn.ntmps d c fn.results.toList args (recV u).1 (fun e w' => Rr e (recV u).2 w') w) :
    CallsD P g args.toArray u w Rr := by
  refine callsD_of_wpS hf hb fun c₀ cs hu => wpS_seq (wpS_region ?_)
  have hrun : ∀ a : Act, (execOp a.eval o).run P w = .ok .recover w := by
    intro a
    obtain ⟨dst, op, type, pos, after, guard⟩ := o
    simp only at ho
    subst ho
    rfl
  have hrec : wpOpsS P #[o] (Exit.thenS (c.wpS P (bodyPostS P fn c₀ cs Rr)) (bodyPostS P fn c₀ cs Rr)) (List.range (#[o] : Array Oper).size) { tmps := args.toArray ++ Array.replicate (fn.ntmps - args.toArray.size) undef, defers := [] } (c₀ :: cs) w =
      (c.wpS P (bodyPostS P fn c₀ cs Rr)) (({ tmps := args.toArray ++ Array.replicate (fn.ntmps - args.toArray.size) undef, defers := [] } : Act).put (some d) (recV u).1) ({ c₀ with mode := (recV u).2 } :: cs) w := by
    have hwt : Region.wanted o (yielded #[o] (args.toArray ++ Array.replicate (fn.ntmps - args.toArray.size) undef)) = true := by simp [Region.wanted, hg]
    have hl : List.range (#[o] : Array Oper).size = [0] := rfl
    rw [hl]
    simp only [wpOpsS, List.getElem?_toArray, List.getElem?_cons_zero, hwt, if_true, hrun]
    rw [hd]
    rcases recoverD_recV c₀ cs with h1 | ⟨h1, h2⟩
    · rw [h1, hu]; rfl
    · rw [hu] at h2
      rw [h1, h2]
      subst hu
      rfl
  rw [hrec]
  refine wpS_of_wp ?_
  have hR : R fn.ntmps (({ tmps := args.toArray ++ Array.replicate (fn.ntmps - args.toArray.size) undef, defers := [] } : Act).put (some d) (recV u).1) { e := (d, .v (recV u).1) :: args0 0 args, ds := [] } := by
    have h0 := R_start (n := fn.ntmps) hl
    exact ⟨h0.e.put (by rw [h0.size]; exact hdn) (.v (recV u).1), by rw [size_put]; exact h0.size, rfl⟩
  refine wp_mono (vc_ok hT (draw_ok hm hT) fuel c _ _ _ w _ hR h) ?_
  rintro e a' w' he
  have ret : (∃ s, R fn.ntmps a' s ∧ (match s.ds with | [] => vcRes T s.e fn.results.toList (fun vs => Rr (.returned (retV vs)) (recV u).2 w') w' | _ => False)) →
      a'.defers = [] ∧ ∃ u', ({ c₀ with mode := (recV u).2 } :: cs : List Frame) = { c₀ with mode := u' } :: cs ∧ ∃ v, (results fn a'.tmps).run P w' = .ok v w' ∧ Rr (.returned v) u' w' := by
    rintro ⟨s, hR, h⟩
    split at h
    · rename_i hds
      obtain ⟨vs, h1, h2, h3⟩ := vcRes_ok hT hR.e h
      exact ⟨by rw [hR.ds, hds], _, rfl, _, run_results h3 (by simpa using h2), h1⟩
    · exact h.elim
  cases e with
  | normal => exact ret he
  | ret => exact ret he
  | exit id => obtain ⟨s, _, h⟩ := he; exact h.elim
  | goto l => obtain ⟨s, _, h⟩ := he; exact h.elim
  | panic ch =>
    obtain ⟨s, hR, h⟩ := he
    simp only [fnKont] at h
    split at h
    · rename_i hds; exact ⟨by rw [hR.ds, hds], _, rfl, h⟩
    · exact h.elim
  | outgrown => exact he.elim
end
end Go.Vx
namespace Go.Vx
open Go

/-- The marks are taken up. -/
def mks (K : World → Prop) (w : World) : List Deferred → Prop
  | [] => K w
  | d :: ds => match d.target with
    | .collected b => up b (.deferred (some [])) (.deferred none) (fun w' => mks K w' ds) w
    | _ => False

def fnKontM (T : Tab) (rs : List ResultVar) (R : Ending → World → Prop) : Kont where
  nrm := fun s w => mks (fun w => vcRes T s.e rs (fun vs => R (.returned (retV vs)) w) w) w s.ds
  ret := fun s w => mks (fun w => vcRes T s.e rs (fun vs => R (.returned (retV vs)) w) w) w s.ds
  ext := noExit
  gto := noExit
  pnc := fun s ch w => mks (fun w => R (.panicked ch) w) w s.ds

/-- The condition of a function with loops over functions. -/
def vcFnM (P : Program) (T : Tab) (fuel : Nat) (n : Nat) (c : Code) (rs : List ResultVar) (args : List Value) (R : Ending → World → Prop) (w : World) : Prop :=
  vc P T n (vcDraw P T n) fuel c { e := args0 0 args, ds := [] } (resMask rs) (fnKontM T rs R) w

section
variable {P : Program} {T : Tab} {n : Nat}

theorem fnM_ok (hm : P.follows .mixedOrders = true) (hT : Tab.ok P T) {g : FuncId} {fn : Func} {c : Code} {fuel : Nat} (hf : P.funcs[g]? = some fn) (hb : fn.body = some c) (hn : (fn.name == "runtime.NumGoroutine") = false)
    {args : List Value} (hl : args.length ≤ fn.ntmps) {Rr : Ending → World → Prop} {w : World} (h : vcFnM P T fuel fn.ntmps c fn.results.toList args Rr w) : Tr P g args w Rr := by
  refine .inl ⟨⟨fn, hf, hn, by rw [hb]; rfl⟩, (callsIn_wide (n := 0)).1 (callsIn_of_wp_marks hf hb trivial ?_)⟩
  refine wpIn_mono (vc_in hT (draw_ok hm hT) fuel none c _ _ _ w _ (.inl rfl) (R_start hl) h) ?_
  have key : ∀ (ds : List Deferred) (tmps : Array Value) (u : FrameMode) (K : World → Prop) (w' : World), u ≠ .run → mks K w' ds → (∀ w'', K w'' → LeavesInM Fence.wide 0 P fn tmps Rr [] u w'') → LeavesInM Fence.wide 0 P fn tmps Rr ds u w' := by
    intro ds
    induction ds with
    | nil => intro tmps u K w' _ h hk; exact hk _ h
    | cons d ds ih =>
      intro tmps u K w' hu h hk
      simp only [mks] at h
      split at h
      · rename_i b ht
        obtain ⟨h1, h2⟩ := h
        exact ⟨hu, .inl ⟨b, _, ht, run_takeDeferred h1, ih tmps u K _ hu h2 hk⟩⟩
      · exact h.elim
  rintro e a' w' he
  have ret : (∃ s, R fn.ntmps a' s ∧ mks (fun w => vcRes T s.e fn.results.toList (fun vs => Rr (.returned (retV vs)) w) w) w' s.ds) → LeavesInM Fence.wide 0 P fn a'.tmps Rr a'.defers .returning w' := by
    rintro ⟨s, hR, h⟩
    rw [hR.ds]
    refine key _ _ _ _ _ (by simp) h fun w'' hk => ?_
    obtain ⟨vs, h1, h2, h3⟩ := vcRes_ok hT hR.e hk
    exact ⟨_, run_results h3 (by simpa using h2), h1⟩
  cases e with
  | normal => exact ret he
  | ret => exact ret he
  | exit id => obtain ⟨s, _, h⟩ := he; exact h.elim
  | goto l => obtain ⟨s, _, h⟩ := he; exact h.elim
  | panic ch =>
    obtain ⟨s, hR, h⟩ := he
    show LeavesInM Fence.wide 0 P fn a'.tmps Rr a'.defers (.panicking ch) w'
    rw [hR.ds]
    exact key _ _ _ _ _ (by simp) h fun w'' hk => hk
  | outgrown => exact he.elim
end
end Go.Vx
namespace Go.Vx
open Go Go.Proofs
noncomputable abbrev P : Program := Tryz.prog
theorem ti_of {P : Program} {t : TypeId} {k : TyK} {s b : Nat} {z : Value} {d : TypeDesc} (h1 : (P.info? t).map (fun x => (x.size, x.bytes, x.zero)) = some (s, b, some z)) (h2 : P.underlying t = some d) (h3 : k.fits d) : TI.ok P t ⟨k, s, b, z⟩ := by
  obtain ⟨x, hx, he⟩ := Option.map_eq_some_iff.1 h1
  simp only [Prod.mk.injEq] at he
  exact ⟨⟨x, hx, he.1, he.2.1, he.2.2⟩, d, h2, h3⟩
theorem tok_nil {P : Program} : Tab.ok P [] := fun p hp => by simp at hp
theorem tok_cons {P : Program} {t : TypeId} {i : TI} {T : Tab} (h : i.ok P t) (hT : Tab.ok P T) : Tab.ok P ((t, i) :: T) := by
  intro p hp
  rcases List.mem_cons.1 hp with rfl | hp
  · exact h
  · exact hT p hp
namespace F
abbrev law10_CodeOnce : Nat := 3
abbrev law10_CodeMethods : Nat := 4
abbrev law10_CodeGood : Nat := 5
abbrev code_Compile : Nat := 6
abbrev law10_known : Nat := 7
abbrev law10_taken : Nat := 8
abbrev law10_once : Nat := 9
abbrev law10_used : Nat := 10
abbrev code_Method : Nat := 11
abbrev ref10_Method : Nat := 12
abbrev ref10_Same : Nat := 13
abbrev code_Check : Nat := 14
abbrev ref10_Check : Nat := 15
abbrev tree_Parse : Nat := 16
abbrev code_Make : Nat := 17
abbrev tree_Method : Nat := 18
abbrev ref08_Method : Nat := 19
abbrev ref10_Make : Nat := 20
abbrev ref10_Texts : Nat := 21
abbrev code_Code_good : Nat := 22
abbrev ref10_gone : Nat := 23
abbrev ref10_right : Nat := 24
abbrev tree_unit : Nat := 25
abbrev tree_Parse_1 : Nat := 26
abbrev scope_Resolve : Nat := 27
abbrev code_maker_unit : Nat := 28
abbrev tree_parser_pattern : Nat := 29
abbrev ref08_unit : Nat := 30
abbrev ref09_Resolve : Nat := 31
abbrev ref10_maker_unit : Nat := 32
abbrev code_Unit_run : Nat := 33
abbrev code_Code_names : Nat := 34
abbrev ref10_takes : Nat := 35
abbrev ref10_in : Nat := 36
abbrev ref08_Args : Nat := 37
abbrev lex_Read : Nat := 38
abbrev tree_unit_1 : Nat := 39
abbrev tree_parser_body : Nat := 40
abbrev scope_Resolve_1 : Nat := 41
abbrev scope_walk_unit : Nat := 42
abbrev code_maker_add : Nat := 43
abbrev code_maker_part : Nat := 44
abbrev tree_parser_pattern_1 : Nat := 45
abbrev tree_parser_need : Nat := 46
abbrev tree_parser_take : Nat := 47
abbrev tree_parser_kind : Nat := 48
abbrev ref07_Read : Nat := 49
abbrev ref08_parser_pattern : Nat := 50
abbrev ref08_parser_temps : Nat := 51
abbrev ref08_parser_statements : Nat := 52
abbrev ref09_walk_unit : Nat := 53
abbrev ref10_maker_add : Nat := 54
abbrev ref10_maker_part : Nat := 55
abbrev code_Ins_effect : Nat := 56
abbrev tree_Args : Nat := 57
abbrev ref07_PlainName : Nat := 58
abbrev lex_reader_skip : Nat := 59
abbrev lex_Read_1 : Nat := 60
abbrev lex_place : Nat := 61
abbrev strings_IndexByte : Nat := 62
abbrev lex_reader_word : Nat := 63
abbrev tree_parser_statement : Nat := 64
abbrev tree_parser_bad : Nat := 65
abbrev scope_fixed : Nat := 66
abbrev slices_Contains_string_string : Nat := 67
abbrev scope_walk_part : Nat := 68
abbrev code_once : Nat := 69
abbrev tree_Text : Nat := 70
abbrev code_maker_name : Nat := 71
abbrev code_maker_use : Nat := 72
abbrev code_maker_send : Nat := 73
abbrev ref07_word : Nat := 74
abbrev ref08_parser_is : Nat := 75
abbrev ref08_parser_next : Nat := 76
abbrev ref08_parser_need : Nat := 77
abbrev ref08_parser_fail : Nat := 78
abbrev ref08_parser_expression : Nat := 79
abbrev ref09_fixed : Nat := 80
abbrev ref09_walk_fail : Nat := 81
abbrev ref09_walk_part : Nat := 82
abbrev ref10_among : Nat := 83
abbrev ref08_Text : Nat := 84
abbrev ref10_maker_name : Nat := 85
abbrev ref10_maker_use : Nat := 86
abbrev ref10_maker_send : Nat := 87
abbrev ref10_super : Nat := 88
abbrev lex_PlainName : Nat := 89
abbrev ref07_name : Nat := 90
abbrev lex_reader_more : Nat := 91
abbrev internal_stringslite_IndexByte : Nat := 92
abbrev lex_letter : Nat := 93
abbrev lex_reader_name : Nat := 94
abbrev lex_reader_colon : Nat := 95
abbrev lex_digit : Nat := 96
abbrev whole_Read : Nat := 97
abbrev lex_reader_quoted : Nat := 98
abbrev lex_reader_peek : Nat := 99
abbrev lex_reader_symbol : Nat := 100
abbrev lex_reader_sign : Nat := 101
abbrev tree_parser_expression : Nat := 102
abbrev slices_Index_string_string : Nat := 103
abbrev scope_walk_find : Nat := 104
abbrev tree_writer_node : Nat := 105
abbrev strings_Builder_String : Nat := 106
abbrev ref07_colon : Nat := 107
abbrev ref07_digit : Nat := 108
abbrev ref02_Read : Nat := 109
abbrev ref07_quoted : Nat := 110
abbrev ref07_at : Nat := 111
abbrev ref07_symbol : Nat := 112
abbrev ref07_sign : Nat := 113
abbrev ref07_signs : Nat := 114
abbrev ref08_parser_deeper : Nat := 115
abbrev ref08_parser_cascade : Nat := 116
abbrev ref09_walk_find : Nat := 117
abbrev ref07_Quote : Nat := 118
abbrev ref07_PlainSymbol : Nat := 119
abbrev ref08_all : Nat := 120
abbrev ref08_message : Nat := 121
abbrev ref08_near : Nat := 122
abbrev ref08_names : Nat := 123
abbrev ref08_body : Nat := 124
abbrev ref08_pattern : Nat := 125
abbrev ref07_letter : Nat := 126
abbrev internal_bytealg_IndexByteString : Nat := 127
abbrev lex_reader_name_1 : Nat := 128
abbrev strings_CutPrefix : Nat := 129
abbrev whole_Read_1 : Nat := 130
abbrev strings_IndexFunc : Nat := 131
abbrev whole_plus : Nat := 132
abbrev whole_times : Nat := 133
abbrev whole_words_trim : Nat := 134
abbrev whole_fits : Nat := 135
abbrev strings_Builder_Len : Nat := 136
abbrev strings_Builder_WriteByte : Nat := 137
abbrev lex_reader_sign_1 : Nat := 138
abbrev tree_parser_within : Nat := 139
abbrev tree_parser_expression_1 : Nat := 140
abbrev tree_parser_cascade : Nat := 141
abbrev strings_Builder_WriteString : Nat := 142
abbrev lex_Quote : Nat := 143
abbrev lex_PlainSymbol : Nat := 144
abbrev tree_writer_list : Nat := 145
abbrev tree_writer_to : Nat := 146
abbrev tree_writer_message : Nat := 147
abbrev tree_writer_body : Nat := 148
abbrev tree_writer_pattern : Nat := 149
abbrev ref02_sum : Nat := 150
abbrev ref02_times : Nat := 151
abbrev ref02_fits : Nat := 152
abbrev ref07_among : Nat := 153
abbrev ref08_parser_keyed : Nat := 154
abbrev ref08_parser_whole : Nat := 155
abbrev ref08_parser_message : Nat := 156
abbrev ref08_keys : Nat := 157
abbrev ref08_level : Nat := 158
abbrev internal_stringslite_CutPrefix : Nat := 159
abbrev strings_indexFunc : Nat := 160
abbrev whole_made : Nat := 161
abbrev strings_Builder_copyCheck : Nat := 162
abbrev tree_parser_keyed : Nat := 163
abbrev tree_parser_message : Nat := 164
abbrev strings_ReplaceAll : Nat := 165
abbrev tree_writer_near : Nat := 166
abbrev tree_bound : Nat := 167
abbrev tree_writer_keys : Nat := 168
abbrev tree_writer_message_1 : Nat := 169
abbrev strings_Join : Nat := 170
abbrev tree_writer_pattern_1 : Nat := 171
abbrev ref02_at : Nat := 172
abbrev ref02_turned : Nat := 173
abbrev ref02_made : Nat := 174
abbrev ref08_parser_binary : Nat := 175
abbrev ref08_sent : Nat := 176
abbrev ref08_parser_tok : Nat := 177
abbrev ref08_parser_unary : Nat := 178
abbrev internal_stringslite_HasPrefix : Nat := 179
abbrev whole_words_bytes : Nat := 180
abbrev internal_abi_NoEscape : Nat := 181
abbrev tree_parser_chain : Nat := 182
abbrev tree_parser_binary : Nat := 183
abbrev tree_parser_unary : Nat := 184
abbrev strings_Replace : Nat := 185
abbrev tree_Node_level : Nat := 186
abbrev strings_Builder_Grow : Nat := 187
abbrev ref08_parser_primary : Nat := 188
abbrev slices_Backward_whole_words_uint32 : Nat := 189
abbrev slices_Clone_byte_byte : Nat := 190
abbrev tree_parser_sent : Nat := 191
abbrev tree_parser_primary : Nat := 192
abbrev strings_Count : Nat := 193
abbrev strings_Index : Nat := 194
abbrev unicode_utf8_DecodeRuneInString : Nat := 195
abbrev strings_Builder_grow : Nat := 196
abbrev ref08_parser_list : Nat := 197
abbrev ref08_parser_block : Nat := 198
abbrev slices_Backward_whole_words_uint32_1 : Nat := 199
abbrev tree_parser_list : Nat := 200
abbrev tree_parser_block : Nat := 201
abbrev tree_parser_primary_1 : Nat := 202
abbrev unicode_utf8_RuneCountInString : Nat := 203
abbrev internal_bytealg_CountString : Nat := 204
abbrev internal_stringslite_Index : Nat := 205
abbrev unicode_utf8_decodeRuneInStringSlow : Nat := 206
abbrev internal_bytealg_MakeNoZero : Nat := 207
abbrev tree_parser_list_1 : Nat := 208
abbrev tree_parser_element : Nat := 209
abbrev tree_parser_block_1 : Nat := 210
abbrev internal_bytealg_IndexString : Nat := 211
abbrev internal_bytealg_Cutover : Nat := 212
abbrev internal_bytealg_IndexRabinKarp_string : Nat := 213
abbrev internal_bytealg_hashStr_string : Nat := 214
end F
namespace Ty
abbrev int64 : Nat := 2
abbrev int : Nat := 3
abbrev bool : Nat := 4
abbrev uint8 : Nat := 5
abbrev abi_BoundsErrorCode : Nat := 6
abbrev runtime_boundsError : Nat := 8
abbrev string : Nat := 9
abbrev runtime_errorString : Nat := 10
abbrev runtime_plainError : Nat := 11
abbrev uintptr : Nat := 12
abbrev runtime_errorAddressString : Nat := 14
abbrev p_runtime_TypeAssertionError : Nat := 15
abbrev p_runtime_PanicNilError : Nat := 16
abbrev p_abi_Type : Nat := 17
abbrev maps_unhashableTypeError : Nat := 19
abbrev int32 : Nat := 21
abbrev s_string : Nat := 22
abbrev s_code_Unit : Nat := 23
abbrev code_Code : Nat := 25
abbrev api_Errno : Nat := 26
abbrev s_ref10_Unit : Nat := 30
abbrev ref10_Code : Nat := 32
abbrev s_ref10_Ins : Nat := 35
abbrev ref10_Unit : Nat := 37
abbrev ref10_Ins : Nat := 39
abbrev s_tree_Node : Nat := 48
abbrev tree_Node : Nat := 50
abbrev s_code_Ins : Nat := 54
abbrev code_Unit : Nat := 56
abbrev code_Ins : Nat := 57
abbrev s_ref08_Node : Nat := 58
abbrev ref08_Node : Nat := 60
abbrev p_tree_parser : Nat := 70
abbrev p_tree_Node : Nat := 71
abbrev s_scope_Use : Nat := 73
abbrev p_code_maker : Nat := 76
abbrev code_maker : Nat := 78
abbrev s_ref09_Use : Nat := 82
abbrev p_ref10_maker : Nat := 85
abbrev ref10_maker : Nat := 87
abbrev s_lex_Tok : Nat := 95
abbrev tree_stop : Nat := 99
abbrev tree_parser : Nat := 101
abbrev scope_stop : Nat := 104
abbrev p_scope_walk : Nat := 105
abbrev scope_walk : Nat := 107
abbrev lex_Tok : Nat := 112
abbrev s_ref07_Tok : Nat := 116
abbrev p_ref08_parser : Nat := 119
abbrev ref08_parser : Nat := 121
abbrev p_ref08_Node : Nat := 123
abbrev p_ref09_walk : Nat := 125
abbrev ref09_walk : Nat := 127
abbrev p_lex_reader : Nat := 130
abbrev lex_reader : Nat := 132
abbrev p_scope_frame : Nat := 142
abbrev scope_frame : Nat := 144
abbrev scope_Use : Nat := 146
abbrev p_s_string : Nat := 152
abbrev ref07_Tok : Nat := 157
abbrev ref09_Use : Nat := 170
abbrev s_uint8 : Nat := 176
abbrev whole_Int : Nat := 178
abbrev p_strings_Builder : Nat := 187
abbrev strings_Builder : Nat := 189
abbrev tree_writer : Nat := 191
abbrev ref02_Int : Nat := 194
abbrev s_uint32 : Nat := 208
abbrev whole_words : Nat := 209
abbrev uint32 : Nat := 211
abbrev error : Nat := 215
abbrev p_tree_writer : Nat := 218
abbrev p_uint8 : Nat := 224
abbrev uint64 : Nat := 232
abbrev uint : Nat := 233
abbrev unsafe_Pointer : Nat := 245
abbrev iter_Seq2_int_uint32 : Nat := 250
abbrev a4_uint8 : Nat := 252
abbrev a256_uint8 : Nat := 261
abbrev utf8_acceptRange : Nat := 263
abbrev a16_utf8_acceptRange : Nat := 264
abbrev runtime_TypeAssertionError : Nat := 268
abbrev a0_p_runtime_PanicNilError : Nat := 269
abbrev runtime_PanicNilError : Nat := 271
abbrev abi_TFlag : Nat := 272
abbrev abi_Kind : Nat := 273
abbrev abi_NameOff : Nat := 275
abbrev abi_TypeOff : Nat := 276
abbrev abi_Type : Nat := 278
end Ty
def ty3 : TI := ⟨.int .i64, 1, 8, .int .i64 0⟩
theorem ty3_ok : ty3.ok P 3 := ti_of (by kernel_rfl) Tryz.underlying3 rfl
def ty4 : TI := ⟨.bool, 1, 1, .bool false⟩
theorem ty4_ok : ty4.ok P 4 := ti_of (by kernel_rfl) Tryz.underlying4 rfl
def ty5 : TI := ⟨.int .u8, 1, 1, .int .u8 0⟩
theorem ty5_ok : ty5.ok P 5 := ti_of (by kernel_rfl) Tryz.underlying5 rfl
def ty9 : TI := ⟨.str, 1, 16, .string ⟨#[]⟩⟩
theorem ty9_ok : ty9.ok P 9 := ti_of (by kernel_rfl) Tryz.underlying9 rfl
def ty20 : TI := ⟨.iface, 1, 16, .nilIface⟩
theorem ty20_ok : ty20.ok P 20 := ti_of (by kernel_rfl) Tryz.underlying20 ⟨_, rfl⟩
def ty21 : TI := ⟨.int .i32, 1, 4, .int .i32 0⟩
theorem ty21_ok : ty21.ok P 21 := ti_of (by kernel_rfl) Tryz.underlying21 rfl
def ty22 : TI := ⟨.slice 9, 1, 24, .slice none 0 0⟩
theorem ty22_ok : ty22.ok P 22 := ti_of (by kernel_rfl) Tryz.underlying22 rfl
def ty23 : TI := ⟨.slice 56, 1, 24, .slice none 0 0⟩
theorem ty23_ok : ty23.ok P 23 := ti_of (by kernel_rfl) Tryz.underlying23 rfl
def ty25 : TI := ⟨.struct [(0, 9), (1, 23), (2, 22), (3, 22), (4, 22)], 5, 112, .agg #[(.string ⟨#[]⟩), (.slice none 0 0), (.slice none 0 0), (.slice none 0 0), (.slice none 0 0)]⟩
theorem ty25_ok : ty25.ok P 25 := ti_of (by kernel_rfl) Tryz.underlying25 ⟨_, rfl, rfl⟩
def ty26 : TI := ⟨.int .i64, 1, 8, .int .i64 0⟩
theorem ty26_ok : ty26.ok P 26 := ti_of (by kernel_rfl) Tryz.underlying26 rfl
def ty30 : TI := ⟨.slice 37, 1, 24, .slice none 0 0⟩
theorem ty30_ok : ty30.ok P 30 := ti_of (by kernel_rfl) Tryz.underlying30 rfl
def ty32 : TI := ⟨.struct [(0, 9), (1, 30), (2, 22), (3, 22), (4, 22)], 5, 112, .agg #[(.string ⟨#[]⟩), (.slice none 0 0), (.slice none 0 0), (.slice none 0 0), (.slice none 0 0)]⟩
theorem ty32_ok : ty32.ok P 32 := ti_of (by kernel_rfl) Tryz.underlying32 ⟨_, rfl, rfl⟩
def ty35 : TI := ⟨.slice 39, 1, 24, .slice none 0 0⟩
theorem ty35_ok : ty35.ok P 35 := ti_of (by kernel_rfl) Tryz.underlying35 rfl
def ty37 : TI := ⟨.struct [(0, 3), (1, 3), (2, 35)], 3, 40, .agg #[(.int .i64 0), (.int .i64 0), (.slice none 0 0)]⟩
theorem ty37_ok : ty37.ok P 37 := ti_of (by kernel_rfl) Tryz.underlying37 ⟨_, rfl, rfl⟩
def ty39 : TI := ⟨.struct [(0, 3), (1, 3), (2, 3)], 3, 24, .agg #[(.int .i64 0), (.int .i64 0), (.int .i64 0)]⟩
theorem ty39_ok : ty39.ok P 39 := ti_of (by kernel_rfl) Tryz.underlying39 ⟨_, rfl, rfl⟩
def ty48 : TI := ⟨.slice 50, 1, 24, .slice none 0 0⟩
theorem ty48_ok : ty48.ok P 48 := ti_of (by kernel_rfl) Tryz.underlying48 rfl
def ty50 : TI := ⟨.struct [(0, 3), (1, 9), (2, 3), (3, 3), (4, 22), (5, 48)], 6, 88, .agg #[(.int .i64 0), (.string ⟨#[]⟩), (.int .i64 0), (.int .i64 0), (.slice none 0 0), (.slice none 0 0)]⟩
theorem ty50_ok : ty50.ok P 50 := ti_of (by kernel_rfl) Tryz.underlying50 ⟨_, rfl, rfl⟩
def ty54 : TI := ⟨.slice 57, 1, 24, .slice none 0 0⟩
theorem ty54_ok : ty54.ok P 54 := ti_of (by kernel_rfl) Tryz.underlying54 rfl
def ty56 : TI := ⟨.struct [(0, 3), (1, 3), (2, 54)], 3, 40, .agg #[(.int .i64 0), (.int .i64 0), (.slice none 0 0)]⟩
theorem ty56_ok : ty56.ok P 56 := ti_of (by kernel_rfl) Tryz.underlying56 ⟨_, rfl, rfl⟩
def ty57 : TI := ⟨.struct [(0, 3), (1, 3), (2, 3)], 3, 24, .agg #[(.int .i64 0), (.int .i64 0), (.int .i64 0)]⟩
theorem ty57_ok : ty57.ok P 57 := ti_of (by kernel_rfl) Tryz.underlying57 ⟨_, rfl, rfl⟩
def ty58 : TI := ⟨.slice 60, 1, 24, .slice none 0 0⟩
theorem ty58_ok : ty58.ok P 58 := ti_of (by kernel_rfl) Tryz.underlying58 rfl
def ty60 : TI := ⟨.struct [(0, 3), (1, 9), (2, 3), (3, 3), (4, 22), (5, 58)], 6, 88, .agg #[(.int .i64 0), (.string ⟨#[]⟩), (.int .i64 0), (.int .i64 0), (.slice none 0 0), (.slice none 0 0)]⟩
theorem ty60_ok : ty60.ok P 60 := ti_of (by kernel_rfl) Tryz.underlying60 ⟨_, rfl, rfl⟩
def ty70 : TI := ⟨.ptr 101, 1, 8, .pointer none⟩
theorem ty70_ok : ty70.ok P 70 := ti_of (by kernel_rfl) Tryz.underlying70 rfl
def ty71 : TI := ⟨.ptr 50, 1, 8, .pointer none⟩
theorem ty71_ok : ty71.ok P 71 := ti_of (by kernel_rfl) Tryz.underlying71 rfl
def ty73 : TI := ⟨.slice 146, 1, 24, .slice none 0 0⟩
theorem ty73_ok : ty73.ok P 73 := ti_of (by kernel_rfl) Tryz.underlying73 rfl
def ty78 : TI := ⟨.struct [(0, 25), (5, 73)], 6, 136, .agg #[(.string ⟨#[]⟩), (.slice none 0 0), (.slice none 0 0), (.slice none 0 0), (.slice none 0 0), (.slice none 0 0)]⟩
theorem ty78_ok : ty78.ok P 78 := ti_of (by kernel_rfl) Tryz.underlying78 ⟨_, rfl, rfl⟩
def ty82 : TI := ⟨.slice 170, 1, 24, .slice none 0 0⟩
theorem ty82_ok : ty82.ok P 82 := ti_of (by kernel_rfl) Tryz.underlying82 rfl
def ty87 : TI := ⟨.struct [(0, 32), (5, 82), (6, 3)], 7, 144, .agg #[(.string ⟨#[]⟩), (.slice none 0 0), (.slice none 0 0), (.slice none 0 0), (.slice none 0 0), (.slice none 0 0), (.int .i64 0)]⟩
theorem ty87_ok : ty87.ok P 87 := ti_of (by kernel_rfl) Tryz.underlying87 ⟨_, rfl, rfl⟩
def ty95 : TI := ⟨.slice 112, 1, 24, .slice none 0 0⟩
theorem ty95_ok : ty95.ok P 95 := ti_of (by kernel_rfl) Tryz.underlying95 rfl
def ty99 : TI := ⟨.struct [(0, 3), (1, 26)], 2, 16, .agg #[(.int .i64 0), (.int .i64 0)]⟩
theorem ty99_ok : ty99.ok P 99 := ti_of (by kernel_rfl) Tryz.underlying99 ⟨_, rfl, rfl⟩
def ty101 : TI := ⟨.struct [(0, 95), (1, 3)], 2, 32, .agg #[(.slice none 0 0), (.int .i64 0)]⟩
theorem ty101_ok : ty101.ok P 101 := ti_of (by kernel_rfl) Tryz.underlying101 ⟨_, rfl, rfl⟩
def ty104 : TI := ⟨.struct [(0, 3)], 1, 8, .agg #[(.int .i64 0)]⟩
theorem ty104_ok : ty104.ok P 104 := ti_of (by kernel_rfl) Tryz.underlying104 ⟨_, rfl, rfl⟩
def ty107 : TI := ⟨.struct [(0, 22), (1, 73)], 2, 48, .agg #[(.slice none 0 0), (.slice none 0 0)]⟩
theorem ty107_ok : ty107.ok P 107 := ti_of (by kernel_rfl) Tryz.underlying107 ⟨_, rfl, rfl⟩
def ty112 : TI := ⟨.struct [(0, 3), (1, 9), (2, 3)], 3, 32, .agg #[(.int .i64 0), (.string ⟨#[]⟩), (.int .i64 0)]⟩
theorem ty112_ok : ty112.ok P 112 := ti_of (by kernel_rfl) Tryz.underlying112 ⟨_, rfl, rfl⟩
def ty116 : TI := ⟨.slice 157, 1, 24, .slice none 0 0⟩
theorem ty116_ok : ty116.ok P 116 := ti_of (by kernel_rfl) Tryz.underlying116 rfl
def ty121 : TI := ⟨.struct [(0, 116), (1, 3), (2, 3), (3, 26), (4, 3)], 5, 56, .agg #[(.slice none 0 0), (.int .i64 0), (.int .i64 0), (.int .i64 0), (.int .i64 0)]⟩
theorem ty121_ok : ty121.ok P 121 := ti_of (by kernel_rfl) Tryz.underlying121 ⟨_, rfl, rfl⟩
def ty127 : TI := ⟨.struct [(0, 58), (1, 22), (2, 82), (3, 26), (4, 3)], 5, 88, .agg #[(.slice none 0 0), (.slice none 0 0), (.slice none 0 0), (.int .i64 0), (.int .i64 0)]⟩
theorem ty127_ok : ty127.ok P 127 := ti_of (by kernel_rfl) Tryz.underlying127 ⟨_, rfl, rfl⟩
def ty132 : TI := ⟨.struct [(0, 9), (1, 3)], 2, 24, .agg #[(.string ⟨#[]⟩), (.int .i64 0)]⟩
theorem ty132_ok : ty132.ok P 132 := ti_of (by kernel_rfl) Tryz.underlying132 ⟨_, rfl, rfl⟩
def ty142 : TI := ⟨.ptr 144, 1, 8, .pointer none⟩
theorem ty142_ok : ty142.ok P 142 := ti_of (by kernel_rfl) Tryz.underlying142 rfl
def ty144 : TI := ⟨.struct [(0, 50), (6, 142)], 7, 96, .agg #[(.int .i64 0), (.string ⟨#[]⟩), (.int .i64 0), (.int .i64 0), (.slice none 0 0), (.slice none 0 0), (.pointer none)]⟩
theorem ty144_ok : ty144.ok P 144 := ti_of (by kernel_rfl) Tryz.underlying144 ⟨_, rfl, rfl⟩
def ty146 : TI := ⟨.struct [(0, 3), (1, 9), (2, 3), (3, 3), (4, 3), (5, 4)], 6, 56, .agg #[(.int .i64 0), (.string ⟨#[]⟩), (.int .i64 0), (.int .i64 0), (.int .i64 0), (.bool false)]⟩
theorem ty146_ok : ty146.ok P 146 := ti_of (by kernel_rfl) Tryz.underlying146 ⟨_, rfl, rfl⟩
def ty157 : TI := ⟨.struct [(0, 3), (1, 9), (2, 3)], 3, 32, .agg #[(.int .i64 0), (.string ⟨#[]⟩), (.int .i64 0)]⟩
theorem ty157_ok : ty157.ok P 157 := ti_of (by kernel_rfl) Tryz.underlying157 ⟨_, rfl, rfl⟩
def ty170 : TI := ⟨.struct [(0, 3), (1, 9), (2, 3), (3, 3), (4, 3), (5, 4)], 6, 56, .agg #[(.int .i64 0), (.string ⟨#[]⟩), (.int .i64 0), (.int .i64 0), (.int .i64 0), (.bool false)]⟩
theorem ty170_ok : ty170.ok P 170 := ti_of (by kernel_rfl) Tryz.underlying170 ⟨_, rfl, rfl⟩
def ty176 : TI := ⟨.slice 5, 1, 24, .slice none 0 0⟩
theorem ty176_ok : ty176.ok P 176 := ti_of (by kernel_rfl) Tryz.underlying176 rfl
def ty178 : TI := ⟨.struct [(0, 4), (1, 176)], 2, 32, .agg #[(.bool false), (.slice none 0 0)]⟩
theorem ty178_ok : ty178.ok P 178 := ti_of (by kernel_rfl) Tryz.underlying178 ⟨_, rfl, rfl⟩
def ty187 : TI := ⟨.ptr 189, 1, 8, .pointer none⟩
theorem ty187_ok : ty187.ok P 187 := ti_of (by kernel_rfl) Tryz.underlying187 rfl
def ty189 : TI := ⟨.struct [(0, 187), (1, 176)], 2, 32, .agg #[(.pointer none), (.slice none 0 0)]⟩
theorem ty189_ok : ty189.ok P 189 := ti_of (by kernel_rfl) Tryz.underlying189 ⟨_, rfl, rfl⟩
def ty191 : TI := ⟨.struct [(0, 189)], 2, 32, .agg #[(.pointer none), (.slice none 0 0)]⟩
theorem ty191_ok : ty191.ok P 191 := ti_of (by kernel_rfl) Tryz.underlying191 ⟨_, rfl, rfl⟩
def ty194 : TI := ⟨.struct [(0, 4), (1, 176)], 2, 32, .agg #[(.bool false), (.slice none 0 0)]⟩
theorem ty194_ok : ty194.ok P 194 := ti_of (by kernel_rfl) Tryz.underlying194 ⟨_, rfl, rfl⟩
def ty209 : TI := ⟨.slice 211, 1, 24, .slice none 0 0⟩
theorem ty209_ok : ty209.ok P 209 := ti_of (by kernel_rfl) Tryz.underlying209 rfl
def ty211 : TI := ⟨.int .u32, 1, 4, .int .u32 0⟩
theorem ty211_ok : ty211.ok P 211 := ti_of (by kernel_rfl) Tryz.underlying211 rfl
def ty218 : TI := ⟨.ptr 191, 1, 8, .pointer none⟩
theorem ty218_ok : ty218.ok P 218 := ti_of (by kernel_rfl) Tryz.underlying218 rfl
def ty232 : TI := ⟨.int .u64, 1, 8, .int .u64 0⟩
theorem ty232_ok : ty232.ok P 232 := ti_of (by kernel_rfl) Tryz.underlying232 rfl
def ty245 : TI := ⟨.other, 1, 8, .pointer none⟩
theorem ty245_ok : ty245.ok P 245 := ti_of (by kernel_rfl) Tryz.underlying245 trivial
def ty252 : TI := ⟨.array 4 5, 4, 4, .agg #[(.int .u8 0), (.int .u8 0), (.int .u8 0), (.int .u8 0)]⟩
theorem ty252_ok : ty252.ok P 252 := ti_of (by kernel_rfl) Tryz.underlying252 rfl
def tab : Tab := [(3, ty3), (4, ty4), (5, ty5), (9, ty9), (20, ty20), (21, ty21), (22, ty22), (23, ty23), (25, ty25), (26, ty26), (30, ty30), (32, ty32), (35, ty35), (37, ty37), (39, ty39), (48, ty48), (50, ty50), (54, ty54), (56, ty56), (57, ty57), (58, ty58), (60, ty60), (70, ty70), (71, ty71), (73, ty73), (78, ty78), (82, ty82), (87, ty87), (95, ty95), (99, ty99), (101, ty101), (104, ty104), (107, ty107), (112, ty112), (116, ty116), (121, ty121), (127, ty127), (132, ty132), (142, ty142), (144, ty144), (146, ty146), (157, ty157), (170, ty170), (176, ty176), (178, ty178), (187, ty187), (189, ty189), (191, ty191), (194, ty194), (209, ty209), (211, ty211), (218, ty218), (232, ty232), (245, ty245), (252, ty252)]
theorem tab_ok : Tab.ok P tab := (tok_cons ty3_ok (tok_cons ty4_ok (tok_cons ty5_ok (tok_cons ty9_ok (tok_cons ty20_ok (tok_cons ty21_ok (tok_cons ty22_ok (tok_cons ty23_ok (tok_cons ty25_ok (tok_cons ty26_ok (tok_cons ty30_ok (tok_cons ty32_ok (tok_cons ty35_ok (tok_cons ty37_ok (tok_cons ty39_ok (tok_cons ty48_ok (tok_cons ty50_ok (tok_cons ty54_ok (tok_cons ty56_ok (tok_cons ty57_ok (tok_cons ty58_ok (tok_cons ty60_ok (tok_cons ty70_ok (tok_cons ty71_ok (tok_cons ty73_ok (tok_cons ty78_ok (tok_cons ty82_ok (tok_cons ty87_ok (tok_cons ty95_ok (tok_cons ty99_ok (tok_cons ty101_ok (tok_cons ty104_ok (tok_cons ty107_ok (tok_cons ty112_ok (tok_cons ty116_ok (tok_cons ty121_ok (tok_cons ty127_ok (tok_cons ty132_ok (tok_cons ty142_ok (tok_cons ty144_ok (tok_cons ty146_ok (tok_cons ty157_ok (tok_cons ty170_ok (tok_cons ty176_ok (tok_cons ty178_ok (tok_cons ty187_ok (tok_cons ty189_ok (tok_cons ty191_ok (tok_cons ty194_ok (tok_cons ty209_ok (tok_cons ty211_ok (tok_cons ty218_ok (tok_cons ty232_ok (tok_cons ty245_ok (tok_cons ty252_ok tok_nil)))))))))))))))))))))))))))))))))))))))))))))))))))))))
theorem mixed : P.follows .mixedOrders = true := by kernel_rfl
end Go.Vx
namespace Go.Vx
open Go

structure G where
  imm : Nat → Option Obj
  os : Os
  tape : Nat → Question → Nat
  out : Array (Nat × ByteArray)

abbrev Hp := List (Nat × Obj)

structure Sat (g : G) (w : World) (H : Hp) : Prop where
  os : w.os = g.os
  tape : w.tape = g.tape
  out : w.output = g.out
  imm : ∀ b o, g.imm b = some o → w.heap[b]? = some o
  own : ∀ b o, (b, o) ∈ H → w.heap[b]? = some o ∧ g.imm b = none
  nodup : (H.map (·.1)).Nodup

/-- More stays. -/
structure G.le (g g' : G) : Prop where
  os : g'.os = g.os
  tape : g'.tape = g.tape
  out : g'.out = g.out
  imm : ∀ b o, g.imm b = some o → g'.imm b = some o

theorem G.le.refl (g : G) : g.le g := ⟨rfl, rfl, rfl, fun _ _ h => h⟩
theorem G.le.trans {a b c : G} (h : a.le b) (k : b.le c) : a.le c := ⟨k.os.trans h.os, k.tape.trans h.tape, k.out.trans h.out, fun q o hq => k.imm q o (h.imm q o hq)⟩

def G.add (g : G) (b : Nat) (o : Obj) : G := { g with imm := fun q => if q = b then some o else g.imm q }

theorem G.le_add {g : G} {b : Nat} {o : Obj} (h : g.imm b = none) : g.le (g.add b o) :=
  ⟨rfl, rfl, rfl, fun q o' hq => by
    simp only [G.add]
    split
    · rename_i e; subst e; rw [h] at hq; simp at hq
    · exact hq⟩

def G.cell? (g : G) (b o : Nat) : Option Value :=
  match g.imm b with
  | some (.cells c _ _) => c[o]?
  | _ => none

theorem G.le.cell {g g' : G} (h : g.le g') {b o : Nat} {v : Value} (hc : g.cell? b o = some v) : g'.cell? b o = some v := by
  unfold G.cell? at *
  split at hc
  · rename_i c t fr hb; rw [h.imm b _ hb]; exact hc
  · simp at hc

variable {g : G} {w : World} {H : Hp}

theorem Sat.block (h : Sat g w H) {b : Nat} {o : Obj} (hb : (b, o) ∈ H) : w.heap[b]? = some o := (h.own b o hb).1

theorem Sat.cellI (h : Sat g w H) {b o : Nat} {v : Value} (hc : g.cell? b o = some v) : w.cell? ⟨b, o, none⟩ = some v := by
  unfold G.cell? at hc
  split at hc
  · rename_i c t fr hb
    simp [World.cell?, h.imm b _ hb, hc]
  · simp at hc

theorem Sat.cellH (h : Sat g w H) {b o : Nat} {c : Array Value} {t : TypeId} {fr : Nat × Nat} (hb : (b, .cells c t fr) ∈ H) {v : Value} (hv : c[o]? = some v) : w.cell? ⟨b, o, none⟩ = some v := by
  simp [World.cell?, h.block hb, hv]

/-- Only some of what is one's own, in another order. -/
theorem Sat.sub (h : Sat g w H) {H' : Hp} (hs : ∀ x ∈ H', x ∈ H) (hn : (H'.map (·.1)).Nodup) : Sat g w H' :=
  ⟨h.os, h.tape, h.out, h.imm, fun b o hb => h.own b o (hs _ hb), hn⟩

theorem Sat.tail {b : Nat} {o : Obj} (h : Sat g w ((b, o) :: H)) : Sat g w H :=
  ⟨h.os, h.tape, h.out, h.imm, fun b o hb => h.own b o (by simp [hb]), by have := h.nodup; simp only [List.map_cons, List.nodup_cons] at this; exact this.2⟩

theorem Sat.perm (h : Sat g w H) {H' : Hp} (hp : H.Perm H') : Sat g w H' :=
  h.sub (fun x hx => hp.mem_iff.2 hx) ((hp.map _).nodup_iff.1 h.nodup)

theorem Sat.swap {A B : Hp} (h : Sat g w (A ++ B)) : Sat g w (B ++ A) := h.perm List.perm_append_comm

theorem Sat.swap2 {x y : Nat × Obj} (h : Sat g w (x :: y :: H)) : Sat g w (y :: x :: H) := h.perm (List.Perm.swap y x H)

/-- One block to the front. -/
theorem Sat.front {A B : Hp} {x : Nat × Obj} (h : Sat g w (A ++ x :: B)) : Sat g w (x :: (A ++ B)) := h.perm List.perm_middle
theorem Sat.back {A B : Hp} {x : Nat × Obj} (h : Sat g w (x :: (A ++ B))) : Sat g w (A ++ x :: B) := h.perm List.perm_middle.symm

theorem Sat.ne {b b' : Nat} {o o' : Obj} (h : Sat g w ((b, o) :: H)) (hb : (b', o') ∈ H) : b ≠ b' := by
  intro e
  subst e
  have := h.nodup
  simp only [List.map_cons, List.nodup_cons] at this
  exact this.1 (List.mem_map.2 ⟨_, hb, rfl⟩)

theorem Sat.lt (h : Sat g w H) {b : Nat} {o : Obj} (hb : (b, o) ∈ H) : b < w.heap.size := (Array.getElem?_eq_some_iff.1 (h.block hb)).1

theorem Sat.drew (h : Sat g w H) : Sat g w.drew H := ⟨h.os, h.tape, h.out, h.imm, h.own, h.nodup⟩

/-- A block of one's own stays from now on. -/
theorem Sat.freeze {b : Nat} {o : Obj} (h : Sat g w ((b, o) :: H)) : Sat (g.add b o) w H ∧ g.le (g.add b o) := by
  have hb := h.own b o (by simp)
  refine ⟨⟨h.os, h.tape, h.out, fun q o' hq => ?_, fun q o' hq => ⟨(h.own q o' (by simp [hq])).1, ?_⟩, h.tail.nodup⟩, G.le_add hb.2⟩
  · simp only [G.add] at hq
    split at hq
    · rename_i e; subst e; injection hq with hq; subst hq; exact hb.1
    · exact h.imm q o' hq
  · have hne : ¬ q = b := fun e => (h.ne hq) e.symm
    simp only [G.add]
    rw [if_neg hne]
    exact (h.own q o' (by simp [hq])).2

theorem add_cell {b o : Nat} {c : Array Value} {t : TypeId} {fr : Nat × Nat} : (g.add b (.cells c t fr)).cell? b o = c[o]? := by simp [G.cell?, G.add]

/-- A new block. -/
theorem Sat.new (h : Sat g w H) {o : Obj} {w' : World} (h1 : w'.os = w.os) (h2 : w'.tape = w.tape) (h3 : w'.output = w.output) (h4 : w'.heap = w.heap.push o) : Sat g w' ((w.heap.size, o) :: H) := by
  have himm : ∀ (b : Nat) (o' : Obj), w.heap[b]? = some o' → w'.heap[b]? = some o' := by
    intro b o' hb
    have hlt := (Array.getElem?_eq_some_iff.1 hb).1
    rw [h4, Array.getElem?_push, if_neg (by omega)]
    exact hb
  refine ⟨h1.trans h.os, h2.trans h.tape, h3.trans h.out, fun b o' hb => himm b o' (h.imm b o' hb), fun b o' hb => ?_, ?_⟩
  · rcases List.mem_cons.1 hb with he | hb
    · injection he with e1 e2
      subst e1 e2
      refine ⟨by rw [h4]; simp, ?_⟩
      cases hi : g.imm w.heap.size with
      | none => rfl
      | some q =>
        have := (Array.getElem?_eq_some_iff.1 (h.imm _ _ hi)).1
        omega
    · exact ⟨himm b o' (h.own b o' hb).1, (h.own b o' hb).2⟩
  · simp only [List.map_cons, List.nodup_cons]
    refine ⟨fun hm => ?_, h.nodup⟩
    obtain ⟨x, hx, he⟩ := List.mem_map.1 hm
    have := h.lt (b := x.1) (o := x.2) hx
    omega

/-- A block of one's own is written. -/
theorem Sat.set {b : Nat} {o o' : Obj} (h : Sat g w ((b, o) :: H)) : Sat g (setBlk w b o') ((b, o') :: H) := by
  have hb := h.own b o (by simp)
  refine ⟨h.os, h.tape, h.out, fun q o2 hq => ?_, fun q o2 hq => ?_, by have := h.nodup; simpa using this⟩
  · have hne : b ≠ q := by intro e; subst e; rw [hb.2] at hq; simp at hq
    rw [setBlk_other _ _ _ _ hne]
    exact h.imm q o2 hq
  · rcases List.mem_cons.1 hq with he | hq
    · injection he with e1 e2
      subst e1 e2
      exact ⟨setBlk_get _ _ _ _ hb.1, hb.2⟩
    · rw [setBlk_other _ _ _ _ (h.ne hq)]
      exact h.own q o2 (by simp [hq])

/-! ### Pure nodes -/
section
variable {K : Value → World → Prop}
theorem nc_eq (a : Addr) : nc (.pointer (some a)) K w = K (.pointer (some a)) w := by simp [nc]
theorem fa_eq (off b o : Nat) : fa off (ptr b o) K w = K (ptr b (o + off)) w := by
  apply propext; constructor
  · rintro ⟨b', o', he, h⟩; injection he with he; injection he with he; injection he with h1 h2; subst h1 h2; exact h
  · intro h; exact ⟨b, o, rfl, h⟩
theorem bI_eq (op : BinOp) (k : IntKind) (a b : Int) : bI op k (.int k a) (.int k b) K w = (okI op b ∧ K (opI op k a b) w) := by
  apply propext; constructor
  · rintro ⟨a', b', he, he', h1, h2⟩; injection he with _ he; injection he' with _ he'; subst he he'; exact ⟨h1, h2⟩
  · rintro ⟨h1, h2⟩; exact ⟨a, b, rfl, rfl, h1, h2⟩
theorem bH_eq (op : BinOp) (k k' : IntKind) (a b : Int) : bH op k (.int k a) (.int k' b) K w = (okI op b ∧ K (opI op k a b) w) := by
  apply propext; constructor
  · rintro ⟨a', k2, b', he, he', h1, h2⟩; injection he with _ he; injection he' with _ he'; subst he he'; exact ⟨h1, h2⟩
  · rintro ⟨h1, h2⟩; exact ⟨a, k', b, rfl, rfl, h1, h2⟩
theorem bI_add (k : IntKind) (a b : Int) : bI .add k (.int k a) (.int k b) K w = K (.int k (k.wrap (a + b))) w := by simp [bI_eq, okI, opI]
theorem bI_sub (k : IntKind) (a b : Int) : bI .sub k (.int k a) (.int k b) K w = K (.int k (k.wrap (a - b))) w := by simp [bI_eq, okI, opI]
theorem bI_mul (k : IntKind) (a b : Int) : bI .mul k (.int k a) (.int k b) K w = K (.int k (k.wrap (a * b))) w := by simp [bI_eq, okI, opI]
theorem bI_eql (k : IntKind) (a b : Int) : bI .eql k (.int k a) (.int k b) K w = K (.bool (decide (a = b))) w := by simp [bI_eq, okI, opI]
theorem bI_neq (k : IntKind) (a b : Int) : bI .neq k (.int k a) (.int k b) K w = K (.bool (!decide (a = b))) w := by simp [bI_eq, okI, opI]
theorem bI_lss (k : IntKind) (a b : Int) : bI .lss k (.int k a) (.int k b) K w = K (.bool (decide (a < b))) w := by simp [bI_eq, okI, opI]
theorem bI_leq (k : IntKind) (a b : Int) : bI .leq k (.int k a) (.int k b) K w = K (.bool (decide (a ≤ b))) w := by simp [bI_eq, okI, opI]
theorem bI_gtr (k : IntKind) (a b : Int) : bI .gtr k (.int k a) (.int k b) K w = K (.bool (decide (b < a))) w := by simp [bI_eq, okI, opI]
theorem bI_geq (k : IntKind) (a b : Int) : bI .geq k (.int k a) (.int k b) K w = K (.bool (decide (b ≤ a))) w := by simp [bI_eq, okI, opI]
theorem bI_or (k : IntKind) (a b : Int) : bI .or k (.int k a) (.int k b) K w = K (.int k (bitsI .or k a b)) w := by simp [bI_eq, okI, opI]
theorem bI_and (k : IntKind) (a b : Int) : bI .and k (.int k a) (.int k b) K w = K (.int k (bitsI .and k a b)) w := by simp [bI_eq, okI, opI]
theorem bI_xor (k : IntKind) (a b : Int) : bI .xor k (.int k a) (.int k b) K w = K (.int k (bitsI .xor k a b)) w := by simp [bI_eq, okI, opI]

theorem str_inj {a b : List UInt8} (h : str a = str b) : a = b := by
  injection h with h
  injection h with h
  simpa using congrArg Array.toList h

theorem bS_eq (op : BinOp) (a b : List UInt8) : bS op (str a) (str b) K w = (okS op a b ∧ K (opS op a b) w) := by
  apply propext; constructor
  · rintro ⟨a', b', he, he', h1, h2⟩; have := str_inj he; have := str_inj he'; subst a' b'; exact ⟨h1, h2⟩
  · rintro ⟨h1, h2⟩; exact ⟨a, b, rfl, rfl, h1, h2⟩
theorem bS_eql (a b : List UInt8) : bS .eql (str a) (str b) K w = K (.bool (decide (a = b))) w := by simp [bS_eq, okS, opS]
theorem bS_neq (a b : List UInt8) : bS .neq (str a) (str b) K w = K (.bool (!decide (a = b))) w := by simp [bS_eq, okS, opS]
theorem bS_add (a b : List UInt8) : bS .add (str a) (str b) K w = (a.length + b.length ≤ 9223372036854775807 ∧ K (str (a ++ b)) w) := by simp [bS_eq, okS, opS]
theorem bS_gtr (a b : List UInt8) : bS .gtr (str a) (str b) K w = K (.bool (!(Op.bytesLess a b || decide (a = b)))) w := by simp [bS_eq, okS, opS]
theorem bS_lss (a b : List UInt8) : bS .lss (str a) (str b) K w = K (.bool (Op.bytesLess a b)) w := by simp [bS_eq, okS, opS]
theorem bB_eql (a b : Bool) : bB .eql (.bool a) (.bool b) K w = K (.bool (a == b)) w := by simp [bB]
theorem bB_neq (a b : Bool) : bB .neq (.bool a) (.bool b) K w = K (.bool (a != b)) w := by simp [bB]
theorem bN_eql {k : TyK} {x y : Value} {t : Bool} (h1 : kindNil k x = true) (h2 : kindNil k y = true) (h3 : litNil y = true) (h4 : isNil x = some t) : bN .eql k x y K w = K (.bool t) w := by simp [bN, h1, h2, h3, h4]
theorem bN_neq {k : TyK} {x y : Value} {t : Bool} (h1 : kindNil k x = true) (h2 : kindNil k y = true) (h3 : litNil y = true) (h4 : isNil x = some t) : bN .neq k x y K w = K (.bool (!t)) w := by simp [bN, h1, h2, h3, h4]
theorem bNp_eql (e : TypeId) (a : Addr) : bN .eql (.ptr e) (.pointer (some a)) (.pointer none) K w = K (.bool false) w := bN_eql rfl rfl rfl rfl
theorem bNp_neq (e : TypeId) (a : Addr) : bN .neq (.ptr e) (.pointer (some a)) (.pointer none) K w = K (.bool true) w := bN_neq (t := false) rfl rfl rfl rfl
theorem bNn_eql (e : TypeId) : bN .eql (.ptr e) (.pointer none) (.pointer none) K w = K (.bool true) w := bN_eql rfl rfl rfl rfl
theorem bNn_neq (e : TypeId) : bN .neq (.ptr e) (.pointer none) (.pointer none) K w = K (.bool false) w := bN_neq (t := true) rfl rfl rfl rfl
theorem uN_eq (b : Bool) : uN (.bool b) K w = K (.bool (!b)) w := by simp [uN]
theorem uM_eq (k : IntKind) (n : Int) : uM (.int k n) K w = K (.int k (k.wrap (0 - n))) w := by
  apply propext; constructor
  · rintro ⟨k', n', he, h⟩; injection he with h1 h2; subst h1 h2; exact h
  · intro h; exact ⟨k, n, rfl, h⟩
theorem cI_eq (k k' : IntKind) (a : Int) : cI k (.int k' a) K w = K (.int k (k.wrap a)) w := by
  apply propext; constructor
  · rintro ⟨k2, n', he, h⟩; injection he with h1 h2; subst h1 h2; exact h
  · intro h; exact ⟨k', a, rfl, h⟩
theorem cS_eq (l : List UInt8) : cS (str l) K w = K (str l) w := by
  apply propext; constructor
  · rintro ⟨l', he, h⟩; have := str_inj he; subst this; exact h
  · intro h; exact ⟨l, rfl, h⟩
theorem lnS_eq (l : List UInt8) : lnS (str l) K w = K (i64 (l.length : Int)) w := by
  apply propext; constructor
  · rintro ⟨l', he, h⟩; have := str_inj he; subst this; exact h
  · intro h; exact ⟨l, rfl, h⟩
theorem lnL_eq (a : Option Addr) (n c : Nat) : lnL (.slice a n c) K w = K (i64 (n : Int)) w := by
  apply propext; constructor
  · rintro ⟨a', n', c', he, h⟩; injection he with h1 h2 h3; subst h1 h2 h3; exact h
  · intro h; exact ⟨a, n, c, rfl, h⟩
theorem cpL_eq (a : Option Addr) (n c : Nat) : cpL (.slice a n c) K w = K (i64 (c : Int)) w := by
  apply propext; constructor
  · rintro ⟨a', n', c', he, h⟩; injection he with h1 h2 h3; subst h1 h2 h3; exact h
  · intro h; exact ⟨a, n, c, rfl, h⟩
theorem mxI_eq (k : IntKind) (a b : Int) : mxI (.int k a) (.int k b) K w = K (.int k (if a < b then b else a)) w := by
  apply propext; constructor
  · rintro ⟨k', a', b', he, he', h⟩; injection he with h1 h2; injection he' with _ h3; subst h1 h2 h3; exact h
  · intro h; exact ⟨k, a, b, rfl, rfl, h⟩
theorem mnI_eq (k : IntKind) (a b : Int) : mnI (.int k a) (.int k b) K w = K (.int k (if b < a then b else a)) w := by
  apply propext; constructor
  · rintro ⟨k', a', b', he, he', h⟩; injection he with h1 h2; injection he' with _ h3; subst h1 h2 h3; exact h
  · intro h; exact ⟨k, a, b, rfl, rfl, h⟩
theorem ix_eq (l : List UInt8) (k : IntKind) (j : Int) : ix (str l) (.int k j) K w = (0 ≤ j ∧ ∃ c, l[j.toNat]? = some c ∧ K (byt c) w) := by
  apply propext; constructor
  · rintro ⟨l', k', j', c, he, he', h0, h1, h2⟩; have := str_inj he; subst this; injection he' with e1 e2; subst e1 e2; exact ⟨h0, c, h1, h2⟩
  · rintro ⟨h0, c, h1, h2⟩; exact ⟨l, k, j, c, rfl, rfl, h0, h1, h2⟩
theorem ex_eq (vs : List Value) (i : Nat) : ex (.tuple vs.toArray) i K w = (vs[i]?).elim False (fun v => K v w) := by
  apply propext; constructor
  · rintro ⟨vs', v, he, h1, h2⟩; injection he with he; subst he; simp only [] at h1; rw [h1]; exact h2
  · intro h
    cases hv : vs[i]? with
    | none => rw [hv] at h; exact h.elim
    | some v => rw [hv] at h; exact ⟨_, v, rfl, by simpa using hv, h⟩
theorem pk_eq (t : Bool) (a b : Value) : pk (.bool t) a b K w = K (bif t then a else b) w := by simp [pk]
theorem fl_eq (agg : Bool) (size off : Nat) (cs : List Value) : fl agg size off (.agg cs.toArray) K w = (partV agg size cs off).elim False (fun v => K v w) := by
  apply propext; constructor
  · rintro ⟨vs', v, he, h1, h2⟩; injection he with he; subst he; simp only [] at h1; rw [h1]; exact h2
  · intro h
    cases hv : partV agg size cs off with
    | none => rw [hv] at h; exact h.elim
    | some v => rw [hv] at h; exact ⟨_, v, rfl, by simpa using hv, h⟩
theorem bd_eq (z : List Value) (ps : List (Nat × Nat × Value)) : bd z ps K w = (fillV z ps).elim False (fun cs => K (.agg cs.toArray) w) := by
  apply propext; constructor
  · rintro ⟨cs, h1, h2⟩; rw [h1]; exact h2
  · intro h
    cases hv : fillV z ps with
    | none => rw [hv] at h; exact h.elim
    | some v => rw [hv] at h; exact ⟨v, hv, h⟩
theorem ia_eq (size b o n c : Nat) (k : IntKind) (j : Int) : ia size (.slice (some ⟨b, o, none⟩) n c) (.int k j) K w = (0 ≤ j ∧ j < n ∧ K (ptr b (o + j.toNat * size)) w) := by
  apply propext; constructor
  · rintro ⟨b', o', n', c', k', j', he, he', h0, h1, h2⟩
    injection he with e1 e2 e3; injection e1 with e1; injection e1 with e1 e4; injection he' with e5 e6
    subst e1 e2 e3 e4 e5 e6
    exact ⟨h0, h1, h2⟩
  · rintro ⟨h0, h1, h2⟩; exact ⟨b, o, n, c, k, j, rfl, rfl, h0, h1, h2⟩
theorem sl_lo_hi (l : List UInt8) (k k' : IntKind) (a b : Int) : slS (str l) (some (.int k a)) (some (.int k' b)) K w = (0 ≤ a ∧ a ≤ b ∧ b ≤ l.length ∧ K (str ((l.drop a.toNat).take (b.toNat - a.toNat))) w) := by
  apply propext; constructor
  · rintro ⟨l', a', b', he, h1, h2, h3, h4, h5, h6⟩
    have := str_inj he; subst this
    rcases h1 with ⟨h1, _⟩ | ⟨q, h1⟩
    · simp at h1
    · rcases h2 with ⟨h2, _⟩ | ⟨q', h2⟩
      · simp at h2
      · injection h1 with h1; injection h1 with _ h1; injection h2 with h2; injection h2 with _ h2; subst h1 h2; exact ⟨h3, h4, h5, h6⟩
  · rintro ⟨h3, h4, h5, h6⟩; exact ⟨l, a, b, rfl, .inr ⟨k, rfl⟩, .inr ⟨k', rfl⟩, h3, h4, h5, h6⟩
theorem sl_hi (l : List UInt8) (k' : IntKind) (b : Int) : slS (str l) none (some (.int k' b)) K w = (0 ≤ b ∧ b ≤ l.length ∧ K (str (l.take b.toNat)) w) := by
  apply propext; constructor
  · rintro ⟨l', a', b', he, h1, h2, h3, h4, h5, h6⟩
    have := str_inj he; subst this
    rcases h1 with ⟨_, h1⟩ | ⟨q, h1⟩
    · rcases h2 with ⟨h2, _⟩ | ⟨q', h2⟩
      · simp at h2
      · injection h2 with h2; injection h2 with _ h2; subst h1 h2; simp at h6; exact ⟨h4, h5, h6⟩
    · simp at h1
  · rintro ⟨h4, h5, h6⟩; exact ⟨l, 0, b, rfl, .inl ⟨rfl, rfl⟩, .inr ⟨k', rfl⟩, by omega, h4, h5, by simpa using h6⟩
theorem sl_lo (l : List UInt8) (k : IntKind) (a : Int) : slS (str l) (some (.int k a)) none K w = (0 ≤ a ∧ a ≤ l.length ∧ K (str (l.drop a.toNat)) w) := by
  apply propext; constructor
  · rintro ⟨l', a', b', he, h1, h2, h3, h4, h5, h6⟩
    have := str_inj he; subst this
    rcases h1 with ⟨h1, _⟩ | ⟨q, h1⟩
    · simp at h1
    · rcases h2 with ⟨_, h2⟩ | ⟨q', h2⟩
      · injection h1 with h1; injection h1 with _ h1; subst h1 h2
        refine ⟨h3, h4, ?_⟩
        rw [List.take_of_length_le (by simp)] at h6
        exact h6
      · simp at h2
  · rintro ⟨h3, h4, h6⟩
    refine ⟨l, a, l.length, rfl, .inr ⟨k, rfl⟩, .inl ⟨rfl, rfl⟩, h3, h4, by omega, ?_⟩
    rw [List.take_of_length_le (by simp)]
    exact h6
/-- l[a:b] of a slice -/
theorem slL_eq (size : Nat) (ad : Option Addr) (n c : Nat) (k k' : IntKind) (a b : Int) (h0 : 0 ≤ a) (h1 : a ≤ b) (h2 : b ≤ c) (h : K (.slice (if (c : Int) = a then ad else ad.map (·.add (a.toNat * size))) (b.toNat - a.toNat) (c - a.toNat)) w) :
    slL size (.slice ad n c) (some (.int k a)) (some (.int k' b)) none K w := ⟨ad, n, c, a, b, c, rfl, .inr ⟨k, rfl⟩, .inl ⟨rfl, rfl⟩, .inr ⟨k', rfl⟩, h0, h1, h2, by omega, by simpa using h⟩
theorem slL_lo (size : Nat) (ad : Option Addr) (n c : Nat) (k : IntKind) (a : Int) (h0 : 0 ≤ a) (h1 : a ≤ n) (h2 : n ≤ c) (h : K (.slice (if (c : Int) = a then ad else ad.map (·.add (a.toNat * size))) (n - a.toNat) (c - a.toNat)) w) :
    slL size (.slice ad n c) (some (.int k a)) none none K w := ⟨ad, n, c, a, n, c, rfl, .inr ⟨k, rfl⟩, .inl ⟨rfl, rfl⟩, .inl ⟨rfl, rfl, rfl⟩, h0, h1, by omega, by omega, by simpa using h⟩
theorem slL_hi (size : Nat) (ad : Option Addr) (n c : Nat) (k' : IntKind) (b : Int) (h1 : 0 ≤ b) (h2 : b ≤ c) (h : K (.slice ad b.toNat c) w) :
    slL size (.slice ad n c) none (some (.int k' b)) none K w := by
  refine ⟨ad, n, c, 0, b, c, rfl, .inl ⟨rfl, rfl⟩, .inl ⟨rfl, rfl⟩, .inr ⟨k', rfl⟩, by omega, h1, h2, by omega, ?_⟩
  have : (if (c : Int) = 0 then ad else ad.map (·.add ((0 : Int).toNat * size))) = ad := by
    split
    · rfl
    · cases ad <;> simp [Addr.add]
  rw [this]
  simpa using h
end
theorem cnd_eq (t : Bool) (A B : Prop) : cnd (.bool t) A B = ((t = true → A) ∧ (t = false → B)) := by simp [cnd]
theorem cnd_dec (p : Prop) [Decidable p] (A B : Prop) : cnd (.bool (decide p)) A B = ((p → A) ∧ (¬ p → B)) := by simp [cnd]
theorem cnd_ndec (p : Prop) [Decidable p] (A B : Prop) : cnd (.bool (!decide p)) A B = ((¬ p → A) ∧ (p → B)) := by
  rw [cnd_eq]; simp
theorem cnd_true (A B : Prop) : cnd (.bool true) A B = A := by simp [cnd]
theorem cnd_false (A B : Prop) : cnd (.bool false) A B = B := by simp [cnd]
theorem sm_nil (d : List Deferred) (p : Prop) : sm [] d d p = p := by simp [sm]
theorem sm_cons (a : Value) (l : List (Value × Value)) (d d' : List Deferred) (p : Prop) : sm ((a, a) :: l) d d' p = sm l d d' p := by simp [sm]
theorem back_ret (K : Value → World → Prop) (kp : List PanicEntry → World → Prop) (v : Value) (w : World) : Vx.back K kp (.returned v) w = K v w := rfl
theorem back_pan (K : Value → World → Prop) (kp : List PanicEntry → World → Prop) (c : List PanicEntry) (w : World) : Vx.back K kp (.panicked c) w = kp c w := rfl
theorem drw_eq (p : World → Prop) : drw w p = p w.drew := rfl
theorem cl_eq (P : Program) (f : FuncId) (args : List Value) (K : Value → World → Prop) (kp : List PanicEntry → World → Prop) : cl P f args K kp w = Tr P f args w (Vx.back K kp) := rfl
theorem clv_eq (P : Program) (f : FuncId) (first cap : Array Value) (args : List Value) (K : Value → World → Prop) (kp : List PanicEntry → World → Prop) : clv P (.func (.func f) first cap) args K kp w = Tr P f (first.toList ++ args ++ cap.toList) w (Vx.back K kp) := by
  apply propext; constructor
  · rintro (⟨g, fi, ca, he, h⟩ | ⟨l, he, _⟩)
    · injection he with h1 h2 h3; injection h1 with h1; subst h1 h2 h3; exact h
    · injection he with h1; simp at h1
  · intro h; exact .inl ⟨f, first, cap, rfl, h⟩
theorem clv_yl (P : Program) (l : Nat) (args : List Value) (K : Value → World → Prop) (kp : List PanicEntry → World → Prop) : clv P (.func (.yield l) #[] #[]) args K kp w = Yl P l args w (Vx.back K kp) := by
  apply propext; constructor
  · rintro (⟨g, fi, ca, he, _⟩ | ⟨l', he, h⟩)
    · injection he with h1; simp at h1
    · injection he with h1; injection h1 with h1; subst h1; exact h
  · intro h; exact .inr ⟨l, rfl, h⟩
theorem pn_eq (t : TypeId) (v : Value) (kp : List PanicEntry → World → Prop) : pn (.iface t v) kp w = kp [{ v := .iface t v, recovered := false }] w := by
  apply propext; constructor
  · rintro ⟨t', v', he, h⟩; exact h
  · intro h; exact ⟨t, v, rfl, h⟩
theorem jn_eq (n : Nat) (k : Fn n) (b : Fn n → Prop) : jn n k b = b k := rfl

/-! ### Nodes that look at memory, or change it -/
section
variable {K : Value → World → Prop}
theorem Sat.ldH (h : Sat g w H) {b : Nat} {c : List Value} {t : TypeId} {fr : Nat × Nat} (hb : (b, .cells c.toArray t fr) ∈ H) (o : Nat) (K : Value → World → Prop) (ho : o < c.length) : ld (ptr b o) K w = K (c.getD o undef) w := by
  apply propext
  have hc := h.cellH hb (o := o) (v := c.getD o undef) (by simp [List.getD_eq_getElem?_getD, ho])
  constructor
  · rintro ⟨ad, v', he, h1, h2⟩
    injection he with he; injection he with he; subst he
    rw [hc] at h1; injection h1 with h1; subst h1; exact h2
  · intro hk; exact ⟨_, _, rfl, hc, hk⟩
theorem Sat.ld0 {b : Nat} {c : List Value} {t : TypeId} {fr : Nat × Nat} (h : Sat g w ((b, .cells c.toArray t fr) :: H)) (o : Nat) (K : Value → World → Prop) (ho : o < c.length) : ld (ptr b o) K w = K (c.getD o undef) w := h.ldH (t := t) (fr := fr) (by simp) o K ho
theorem Sat.ld1 {b : Nat} {c : List Value} {t : TypeId} {fr : Nat × Nat} {x : Nat × Obj} (h : Sat g w (x :: (b, .cells c.toArray t fr) :: H)) (o : Nat) (K : Value → World → Prop) (ho : o < c.length) : ld (ptr b o) K w = K (c.getD o undef) w := h.ldH (t := t) (fr := fr) (by simp) o K ho
theorem Sat.ld2 {b : Nat} {c : List Value} {t : TypeId} {fr : Nat × Nat} {x y : Nat × Obj} (h : Sat g w (x :: y :: (b, .cells c.toArray t fr) :: H)) (o : Nat) (K : Value → World → Prop) (ho : o < c.length) : ld (ptr b o) K w = K (c.getD o undef) w := h.ldH (t := t) (fr := fr) (by simp) o K ho
theorem Sat.ld3 {b : Nat} {c : List Value} {t : TypeId} {fr : Nat × Nat} {x y z : Nat × Obj} (h : Sat g w (x :: y :: z :: (b, .cells c.toArray t fr) :: H)) (o : Nat) (K : Value → World → Prop) (ho : o < c.length) : ld (ptr b o) K w = K (c.getD o undef) w := h.ldH (t := t) (fr := fr) (by simp) o K ho
theorem Sat.ldI (h : Sat g w H) {b o : Nat} {v : Value} (hc : g.cell? b o = some v) (K : Value → World → Prop) : ld (ptr b o) K w = K v w := by
  apply propext
  have hc := h.cellI hc
  constructor
  · rintro ⟨ad, v', he, h1, h2⟩
    injection he with he; injection he with he; subst he
    rw [hc] at h1; injection h1 with h1; subst h1; exact h2
  · intro hk; exact ⟨_, v, rfl, hc, hk⟩
theorem Sat.ldnI (h : Sat g w H) {b o : Nat} {vs : List Value} (hc : ∀ j v, vs[j]? = some v → g.cell? b (o + j) = some v) (hk : K (.agg vs.toArray) w) : ldn vs.length (ptr b o) K w :=
  ⟨_, vs, rfl, rfl, fun j v hv => by rw [add_plain]; exact h.cellI (hc j v hv), hk⟩
theorem Sat.ldnH (h : Sat g w H) {b : Nat} {c : List Value} {t : TypeId} {fr : Nat × Nat} (hb : (b, .cells c.toArray t fr) ∈ H) (n o : Nat) (ho : o + n ≤ c.length) (hk : K (.agg ((c.drop o).take n).toArray) w) : ldn n (ptr b o) K w := by
  refine ⟨_, (c.drop o).take n, rfl, by simp; omega, fun j v hv => ?_, hk⟩
  rw [add_plain]
  rw [List.getElem?_take] at hv
  split at hv
  · rw [List.getElem?_drop] at hv
    exact h.cellH hb (by simpa using hv)
  · simp at hv
theorem Sat.al (h : Sat g w H) {z : List Value} {t : TypeId} (hk : ∀ b w', Sat g w' ((b, .cells z.toArray t) :: H) → K (ptr b 0) w') : al z t K w := hk _ _ (h.new rfl rfl rfl rfl)
theorem Sat.bs (h : Sat g w H) {z : List Value} {t : TypeId} {n : Nat} {ps : List (Nat × Nat × Value)} {cs : List Value} (hf : fillV ((List.range (n * z.length)).map (fun i => z.getD (i % z.length) undef)) ps = some cs)
    (hk : ∀ b w', Sat g w' ((b, .cells cs.toArray t) :: H) → K (.slice (some ⟨b, 0, none⟩) n n) w') : bs t z n ps K w := ⟨cs, hf, hk _ _ (h.new rfl rfl rfl rfl)⟩
theorem Sat.mkS (h : Sat g w H) {z : List Value} {t : TypeId} {by_ : Nat} {k k' : IntKind} {n c : Int} (h0 : 0 ≤ n) (h1 : n ≤ c) (h2 : by_ * c ≤ 281474976710656) (h3 : c ≤ 9223372036854775807)
    (hk : ∀ b w', Sat g w' ((b, .cells (zerosV z c.toNat).toArray t) :: H) → K (.slice (some ⟨b, 0, none⟩) n.toNat c.toNat) w') : Vx.mk t by_ z (.int k n) (.int k' c) K w := ⟨k, k', n, c, rfl, rfl, h0, h1, h2, h3, hk _ _ (h.new rfl rfl rfl rfl)⟩
theorem Sat.st {b : Nat} {c : List Value} {t : TypeId} (h : Sat g w ((b, .cells c.toArray t) :: H)) {n o : Nat} {v : Value} {K : World → Prop} (hn : v.cells.size = n) (ho : o + n ≤ c.length) (h1 : allOne v.cells.toList = true)
    (hk : ∀ w', Sat g w' ((b, .cells (wr c.toArray o v.cells.toList) t) :: H) → K w') : Vx.st n (ptr b o) v K w :=
  ⟨b, o, c.toArray, t, (0, 0), rfl, h.block (by simp), .inl rfl, hn, by simpa using ho, h1, hk _ h.set⟩
theorem Sat.rk (h : Sat g w H) {b : Nat} {c : List Value} {t : TypeId} {fr : Nat × Nat} (hb : (b, .cells c.toArray t fr) ∈ H) {o : Nat} {v : Value} (hv : c[o]? = some v) {p : Prop} (hp : p) : Vx.rk false (ptr b o) v p w :=
  ⟨⟨_, rfl, h.cellH hb (by simpa using hv)⟩, hp⟩
theorem Sat.rkI (h : Sat g w H) {b o : Nat} {v : Value} (hc : g.cell? b o = some v) {p : Prop} (hp : p) : Vx.rk false (ptr b o) v p w := ⟨⟨_, rfl, h.cellI hc⟩, hp⟩
theorem Sat.rgS (h : Sat g w H) {l : List UInt8} (hk : ∀ b w', Sat g w' ((b, .stringIter ⟨l.toArray⟩ 0) :: H) → K (ptr b 0) w') : Vx.rgS (str l) K w := ⟨l, rfl, hk _ _ (h.new rfl rfl rfl rfl)⟩
theorem Sat.nxS {b : Nat} {s : ByteArray} {pos : Nat} (h : Sat g w ((b, .stringIter s pos) :: H))
    (h1 : pos < s.size → ∀ w', Sat g w' ((b, .stringIter s (pos + (Utf8.decode s pos).2)) :: H) → K (.tuple #[.bool true, i64 (pos : Int), .int .i32 ((Utf8.decode s pos).1 : Int)]) w')
    (h2 : s.size ≤ pos → K (.tuple #[.bool false]) w) : Vx.nxS (ptr b 0) K w :=
  ⟨b, s, pos, rfl, h.block (by simp), fun hp => h1 hp _ h.set, h2⟩
theorem Sat.cSB (h : Sat g w H) {l : List UInt8} {e : TypeId} (hk : ∀ b c w', l.length ≤ c → Sat g w' ((b, .cells ((l.map byt).toArray ++ Array.replicate (c - l.length) (.int .u8 0)) e (c, c + 1)) :: H) → K (.slice (some ⟨b, 0, none⟩) l.length c) w') : Vx.cSB e (str l) K w :=
  ⟨l, rfl, fun c w' hc h1 h2 h3 h4 => hk _ c w' hc (h.new h1 h2 h3 h4)⟩
end

theorem lp0 {init : List Value} {body : (List Value → World → Prop) → Fn 0} (I : Nat → World → Prop) (hi : init = []) (m : Nat) (h0 : I m w) (hs : ∀ m w, I m w → body (fun vs w' => ∃ m', m' < m ∧ vs = [] ∧ I m' w') w) : lp 0 init body w := by
  subst hi
  refine ⟨fun m vs w => vs = [] ∧ I m w, ⟨m, rfl, h0⟩, fun m w h => ?_⟩
  exact hs m w h.2
theorem lp1 {x : Value} {body : (List Value → World → Prop) → Fn 1} (I : Nat → Value → World → Prop) (m : Nat) (h0 : I m x w) (hs : ∀ m x w, I m x w → body (fun vs w' => ∃ m', m' < m ∧ ∃ y, vs = [y] ∧ I m' y w') x w) : lp 1 [x] body w := by
  refine ⟨fun m vs w => ∃ y, vs = [y] ∧ I m y w, ⟨m, x, rfl, h0⟩, fun m v w h => ?_⟩
  obtain ⟨y, he, h⟩ := h
  injection he with he; subst he
  exact hs m v w h
theorem lp2 {x y : Value} {body : (List Value → World → Prop) → Fn 2} (I : Nat → Value → Value → World → Prop) (m : Nat) (h0 : I m x y w) (hs : ∀ m x y w, I m x y w → body (fun vs w' => ∃ m', m' < m ∧ ∃ a b, vs = [a, b] ∧ I m' a b w') x y w) : lp 2 [x, y] body w := by
  refine ⟨fun m vs w => ∃ a b, vs = [a, b] ∧ I m a b w, ⟨m, x, y, rfl, h0⟩, fun m v u w h => ?_⟩
  obtain ⟨a, b, he, h⟩ := h
  injection he with h1 h2; injection h2 with h2; subst h1 h2
  exact hs m v u w h
theorem lp3 {x y z : Value} {body : (List Value → World → Prop) → Fn 3} (I : Nat → Value → Value → Value → World → Prop) (m : Nat) (h0 : I m x y z w) (hs : ∀ m x y z w, I m x y z w → body (fun vs w' => ∃ m', m' < m ∧ ∃ a b c, vs = [a, b, c] ∧ I m' a b c w') x y z w) : lp 3 [x, y, z] body w := by
  refine ⟨fun m vs w => ∃ a b c, vs = [a, b, c] ∧ I m a b c w, ⟨m, x, y, z, rfl, h0⟩, fun m v u t w h => ?_⟩
  obtain ⟨a, b, c, he, h⟩ := h
  injection he with h1 h2; injection h2 with h2 h3; injection h3 with h3; subst h1 h2 h3
  exact hs m v u t w h
theorem lp4 {x y z q : Value} {body : (List Value → World → Prop) → Fn 4} (I : Nat → Value → Value → Value → Value → World → Prop) (m : Nat) (h0 : I m x y z q w) (hs : ∀ m x y z q w, I m x y z q w → body (fun vs w' => ∃ m', m' < m ∧ ∃ a b c d, vs = [a, b, c, d] ∧ I m' a b c d w') x y z q w) : lp 4 [x, y, z, q] body w := by
  refine ⟨fun m vs w => ∃ a b c d, vs = [a, b, c, d] ∧ I m a b c d w, ⟨m, x, y, z, q, rfl, h0⟩, fun m v u t r w h => ?_⟩
  obtain ⟨a, b, c, d, he, h⟩ := h
  injection he with h1 h2; injection h2 with h2 h3; injection h3 with h3 h4; injection h4 with h4; subst h1 h2 h3 h4
  exact hs m v u t r w h
/-- Where ways meet: what holds there. -/
theorem jn0 {k : Fn 0} {b : Fn 0 → Prop} (J : World → Prop) (h1 : ∀ w, J w → k w) (h2 : ∀ k : World → Prop, (∀ w, J w → k w) → b k) : jn 0 k b := h2 k h1
theorem jn1 {k : Fn 1} {b : Fn 1 → Prop} (J : Value → World → Prop) (h1 : ∀ x w, J x w → k x w) (h2 : ∀ k : Value → World → Prop, (∀ x w, J x w → k x w) → b k) : jn 1 k b := h2 k h1
theorem jn2 {k : Fn 2} {b : Fn 2 → Prop} (J : Value → Value → World → Prop) (h1 : ∀ x y w, J x y w → k x y w) (h2 : ∀ k : Value → Value → World → Prop, (∀ x y w, J x y w → k x y w) → b k) : jn 2 k b := h2 k h1
theorem jn3 {k : Fn 3} {b : Fn 3 → Prop} (J : Value → Value → Value → World → Prop) (h1 : ∀ x y z w, J x y z w → k x y z w) (h2 : ∀ k : Value → Value → Value → World → Prop, (∀ x y z w, J x y z w → k x y z w) → b k) : jn 3 k b := h2 k h1
end Go.Vx
namespace Go.Vx
open Go
/-- Equations of the nodes that do not look at memory. -/
theorem E1 :
    (∀ (a : Addr) (K : Value → World → Prop) (w : World), nc (.pointer (some a)) K w = K (.pointer (some a)) w) ∧
    (∀ (off b o : Nat) (K : Value → World → Prop) (w : World), fa off (ptr b o) K w = K (ptr b (o + off)) w) ∧
    (∀ (k : IntKind) (a b : Int) (K : Value → World → Prop) (w : World), bI .eql k (.int k a) (.int k b) K w = K (.bool (decide (a = b))) w) ∧
    (∀ (k : IntKind) (a b : Int) (K : Value → World → Prop) (w : World), bI .neq k (.int k a) (.int k b) K w = K (.bool (!decide (a = b))) w) ∧
    (∀ (k : IntKind) (a b : Int) (K : Value → World → Prop) (w : World), bI .lss k (.int k a) (.int k b) K w = K (.bool (decide (a < b))) w) ∧
    (∀ (k : IntKind) (a b : Int) (K : Value → World → Prop) (w : World), bI .leq k (.int k a) (.int k b) K w = K (.bool (decide (a ≤ b))) w) ∧
    (∀ (k : IntKind) (a b : Int) (K : Value → World → Prop) (w : World), bI .gtr k (.int k a) (.int k b) K w = K (.bool (decide (b < a))) w) ∧
    (∀ (k : IntKind) (a b : Int) (K : Value → World → Prop) (w : World), bI .geq k (.int k a) (.int k b) K w = K (.bool (decide (b ≤ a))) w) ∧
    (∀ (k : IntKind) (a b : Int) (K : Value → World → Prop) (w : World), bI .add k (.int k a) (.int k b) K w = K (.int k (k.wrap (a + b))) w) ∧
    (∀ (k : IntKind) (a b : Int) (K : Value → World → Prop) (w : World), bI .sub k (.int k a) (.int k b) K w = K (.int k (k.wrap (a - b))) w) ∧
    (∀ (k : IntKind) (a b : Int) (K : Value → World → Prop) (w : World), bI .mul k (.int k a) (.int k b) K w = K (.int k (k.wrap (a * b))) w) ∧
    (∀ (k : IntKind) (a b : Int) (K : Value → World → Prop) (w : World), bI .or k (.int k a) (.int k b) K w = K (.int k (bitsI .or k a b)) w) :=
  ⟨fun _ _ _ => nc_eq _, fun _ _ _ _ _ => fa_eq _ _ _, fun _ _ _ _ _ => bI_eql _ _ _, fun _ _ _ _ _ => bI_neq _ _ _, fun _ _ _ _ _ => bI_lss _ _ _, fun _ _ _ _ _ => bI_leq _ _ _,
   fun _ _ _ _ _ => bI_gtr _ _ _, fun _ _ _ _ _ => bI_geq _ _ _, fun _ _ _ _ _ => bI_add _ _ _, fun _ _ _ _ _ => bI_sub _ _ _, fun _ _ _ _ _ => bI_mul _ _ _, fun _ _ _ _ _ => bI_or _ _ _⟩
theorem E2 :
    (∀ (a b : List UInt8) (K : Value → World → Prop) (w : World), bS .eql (str a) (str b) K w = K (.bool (decide (a = b))) w) ∧
    (∀ (a b : List UInt8) (K : Value → World → Prop) (w : World), bS .neq (str a) (str b) K w = K (.bool (!decide (a = b))) w) ∧
    (∀ (b : Bool) (K : Value → World → Prop) (w : World), uN (.bool b) K w = K (.bool (!b)) w) ∧
    (∀ (k : IntKind) (n : Int) (K : Value → World → Prop) (w : World), uM (.int k n) K w = K (.int k (k.wrap (0 - n))) w) ∧
    (∀ (k k' : IntKind) (a : Int) (K : Value → World → Prop) (w : World), cI k (.int k' a) K w = K (.int k (k.wrap a)) w) ∧
    (∀ (l : List UInt8) (K : Value → World → Prop) (w : World), cS (str l) K w = K (str l) w) ∧
    (∀ (l : List UInt8) (K : Value → World → Prop) (w : World), lnS (str l) K w = K (i64 (l.length : Int)) w) ∧
    (∀ (a : Option Addr) (n c : Nat) (K : Value → World → Prop) (w : World), lnL (.slice a n c) K w = K (i64 (n : Int)) w) ∧
    (∀ (a : Option Addr) (n c : Nat) (K : Value → World → Prop) (w : World), cpL (.slice a n c) K w = K (i64 (c : Int)) w) ∧
    (∀ (k : IntKind) (a b : Int) (K : Value → World → Prop) (w : World), mxI (.int k a) (.int k b) K w = K (.int k (if a < b then b else a)) w) ∧
    (∀ (k : IntKind) (a b : Int) (K : Value → World → Prop) (w : World), mnI (.int k a) (.int k b) K w = K (.int k (if b < a then b else a)) w) ∧
    (∀ (l : List UInt8) (k : IntKind) (j : Int) (K : Value → World → Prop) (w : World), ix (str l) (.int k j) K w = (0 ≤ j ∧ ∃ c, l[j.toNat]? = some c ∧ K (byt c) w)) ∧
    (∀ (t : Bool) (a b : Value) (K : Value → World → Prop) (w : World), pk (.bool t) a b K w = K (bif t then a else b) w) ∧
    (∀ (vs : List Value) (i : Nat) (K : Value → World → Prop) (w : World), ex (.tuple vs.toArray) i K w = (vs[i]?).elim False (fun v => K v w)) ∧
    (∀ (p : World → Prop) (w : World), drw w p = p w.drew) ∧
    (∀ (P : Program) (f : FuncId) (args : List Value) (K : Value → World → Prop) (kp : List PanicEntry → World → Prop) (w : World), cl P f args K kp w = Tr P f args w (Vx.back K kp)) ∧
    (∀ (P : Program) (f : FuncId) (first cap : Array Value) (args : List Value) (K : Value → World → Prop) (kp : List PanicEntry → World → Prop) (w : World), clv P (.func (.func f) first cap) args K kp w = Tr P f (first.toList ++ args ++ cap.toList) w (Vx.back K kp)) ∧
    (∀ (t : TypeId) (v : Value) (kp : List PanicEntry → World → Prop) (w : World), pn (.iface t v) kp w = kp [{ v := .iface t v, recovered := false }] w) :=
  ⟨fun _ _ _ _ => bS_eql _ _, fun _ _ _ _ => bS_neq _ _, fun _ _ _ => uN_eq _, fun _ _ _ _ => uM_eq _ _, fun _ _ _ _ _ => cI_eq _ _ _, fun _ _ _ => cS_eq _, fun _ _ _ => lnS_eq _, fun _ _ _ _ _ => lnL_eq _ _ _, fun _ _ _ _ _ => cpL_eq _ _ _,
   fun _ _ _ _ _ => mxI_eq _ _ _, fun _ _ _ _ _ => mnI_eq _ _ _, fun _ _ _ _ _ => ix_eq _ _ _, fun _ _ _ _ _ => pk_eq _ _ _, fun _ _ _ _ => ex_eq _ _, fun _ _ => rfl, fun _ _ _ _ _ _ => rfl, fun _ _ _ _ _ _ _ _ => clv_eq _ _ _ _ _ _ _, fun _ _ _ _ => pn_eq _ _ _⟩
theorem E3 :
    (∀ (A B : Prop), cnd (.bool true) A B = A) ∧ (∀ (A B : Prop), cnd (.bool false) A B = B) ∧
    (∀ (d : List Deferred) (p : Prop), sm [] d d p = p) ∧ (∀ (a : Value) (l : List (Value × Value)) (d d' : List Deferred) (p : Prop), sm ((a, a) :: l) d d' p = sm l d d' p) ∧
    (∀ (K : Value → World → Prop) (kp : List PanicEntry → World → Prop) (v : Value) (w : World), Vx.back K kp (.returned v) w = K v w) ∧
    (∀ (K : Value → World → Prop) (kp : List PanicEntry → World → Prop) (c : List PanicEntry) (w : World), Vx.back K kp (.panicked c) w = kp c w) ∧
    (∀ (v : Value) (l : List Value), (v :: l)[0]? = some v) ∧ (∀ (v : Value) (l : List Value) (i : Nat), (v :: l)[i + 1]? = l[i]?) ∧
    (∀ (v : Value) (K : Value → Prop), (some v).elim False K = K v) ∧
    (∀ (v d : Value) (l : List Value), (v :: l).getD 0 d = v) ∧ (∀ (v d : Value) (l : List Value) (i : Nat), (v :: l).getD (i + 1) d = l.getD i d) ∧
    (∀ (v : Value) (l : List Value), (v :: l).length = l.length + 1) ∧ (([] : List Value).length = 0) :=
  ⟨cnd_true, cnd_false, fun _ _ => sm_nil _ _, fun _ _ _ _ _ => sm_cons _ _ _ _ _, fun _ _ _ _ => rfl, fun _ _ _ _ => rfl, fun _ _ => rfl, fun _ _ _ => rfl, fun _ _ => rfl, fun _ _ _ => rfl, fun _ _ _ _ => rfl, fun _ _ => rfl, rfl⟩
theorem C1 :
    (∀ (p : Prop) [Decidable p] (A B : Prop), cnd (.bool (decide p)) A B = ((p → A) ∧ (¬ p → B))) ∧
    (∀ (p : Prop) [Decidable p] (A B : Prop), cnd (.bool (!decide p)) A B = ((¬ p → A) ∧ (p → B))) :=
  ⟨fun _ _ _ _ => cnd_dec _ _ _, fun _ _ _ _ => cnd_ndec _ _ _⟩
end Go.Vx
namespace Go.Vx
open Go

theorem wr_app : ∀ (vs : List Value) (a b : List Value), vs.length ≤ b.length → wr (a ++ b).toArray a.length vs = (a ++ vs ++ b.drop vs.length).toArray := by
  intro vs
  induction vs with
  | nil => intro a b _; simp [wr]
  | cons v vs ih =>
    intro a b h
    cases b with
    | nil => simp at h
    | cons x b =>
      have e : (a ++ x :: b).toArray.setIfInBounds a.length v = ((a ++ [v]) ++ b).toArray := by simp
      have := ih (a ++ [v]) b (by simpa using h)
      simp only [List.length_append, List.length_cons, List.length_nil, Nat.zero_add] at this
      simp only [wr, e]
      rw [this]
      simp

/-- Written at the front. -/
theorem wr0 (vs b : List Value) (h : vs.length ≤ b.length) : wr b.toArray 0 vs = (vs ++ b.drop vs.length).toArray := by
  simpa using wr_app vs [] b h

/-- A slice that grows: its value, how many, its cells, its block (if there is one). -/
inductive Grow (e : TypeId) (sz : Nat) : Value → Nat → List Value → Hp → Prop
  | nil : Grow e sz (.slice none 0 0) 0 [] []
  | some {b n c : Nat} {cs ex : List Value} (h1 : cs.length = n * sz) (h2 : ex.length = (c - n) * sz) (h3 : n ≤ c) (h4 : 0 < c) : Grow e sz (.slice (some ⟨b, 0, none⟩) n c) n cs [(b, .cells (cs ++ ex).toArray e)]

/-- A slice that stays. -/
def Sl (g : G) (sz : Nat) (v : Value) (n : Nat) (cs : List Value) : Prop :=
  ∃ a c, v = .slice a n c ∧ n ≤ c ∧ cs.length = n * sz ∧ ((a = none ∧ cs = []) ∨ ∃ b o, a = some ⟨b, o, none⟩ ∧ ∀ j x, cs[j]? = some x → g.cell? b (o + j) = some x)

theorem Sl.mono {g g' : G} (hg : g.le g') {sz n : Nat} {v : Value} {cs : List Value} (h : Sl g sz v n cs) : Sl g' sz v n cs := by
  obtain ⟨a, c, h1, h2, h3, h4⟩ := h
  refine ⟨a, c, h1, h2, h3, ?_⟩
  rcases h4 with h4 | ⟨b, o, h5, h6⟩
  · exact .inl h4
  · exact .inr ⟨b, o, h5, fun j x hx => hg.cell (h6 j x hx)⟩

theorem Sl.nil (g : G) (sz : Nat) : Sl g sz (.slice none 0 0) 0 [] := ⟨none, 0, rfl, Nat.le_refl _, by simp, .inl ⟨rfl, rfl⟩⟩

variable {g : G} {w : World} {H hp : Hp} {e : TypeId} {sz n : Nat} {v : Value} {cs : List Value}

theorem Grow.len (h : Grow e sz v n cs hp) : cs.length = n * sz := by
  cases h with
  | nil => simp
  | some h1 _ _ _ => exact h1

theorem Grow.inv (h : Grow e sz v n cs hp) : (v = .slice none 0 0 ∧ n = 0 ∧ cs = [] ∧ hp = []) ∨
    ∃ b c ex, v = .slice (Option.some ⟨b, 0, none⟩) n c ∧ cs.length = n * sz ∧ ex.length = (c - n) * sz ∧ n ≤ c ∧ 0 < c ∧ hp = [(b, .cells (cs ++ ex).toArray e)] := by
  cases h with
  | nil => exact .inl ⟨rfl, rfl, rfl, rfl⟩
  | some h1 h2 h3 h4 => exact .inr ⟨_, _, _, rfl, h1, h2, h3, h4, rfl⟩

/-- It stays from now on. -/
theorem Grow.freeze (h : Grow e sz v n cs hp) (hS : Sat g w (hp ++ H)) : ∃ g', g.le g' ∧ Sat g' w H ∧ Sl g' sz v n cs := by
  cases h with
  | nil => exact ⟨g, .refl g, hS, Sl.nil g sz⟩
  | @some b n c cs ex h1 h2 h3 h40 =>
    obtain ⟨h4, h5⟩ := Sat.freeze hS
    refine ⟨_, h5, h4, Option.some ⟨b, 0, none⟩, c, rfl, h3, h1, .inr ⟨b, 0, rfl, fun j x hx => ?_⟩⟩
    rw [add_cell]
    simp only [Nat.zero_add, List.getElem?_toArray]
    rw [List.getElem?_append_left (List.getElem?_eq_some_iff.1 hx).1]
    exact hx

theorem Sat.drop {A B : Hp} (h : Sat g w (A ++ B)) : Sat g w B :=
  h.sub (fun x hx => by simp [hx]) (by have := h.nodup; rw [List.map_append, List.nodup_append] at this; exact this.2.1)

/-- Something is put at the end of a slice that grows. -/
theorem Sat.ap (hS : Sat g w (hp ++ H)) (hg : Grow e sz v n cs hp) {zero : List Value} (hz : zero.length = sz) {x : Value} {m : Nat} {news : List Value} {bytes : Nat} {K : Value → World → Prop}
    (hs : Src w sz x m news) (hl : news.length = m * sz) (h1 : allOne news = true) (hb : (n + m) * bytes ≤ 140737488355328) (hb2 : n + m ≤ 9223372036854775807)
    (hk : ∀ v' hp' w', Grow e sz v' (n + m) (cs ++ news) hp' → Sat g w' (hp' ++ H) → K v' w') : Vx.ap e sz bytes zero v x K w := by
  subst hz
  cases hg with
  | nil =>
    refine ⟨none, 0, 0, m, news, rfl, hs, hl, h1, hb, hb2, fun h => .inl ⟨rfl, ?_⟩, fun h => ⟨[], by simp, fun _ => rfl, fun ad he => by simp at he, fun c' w' hc e1 e2 e3 e4 => ?_⟩⟩
    · have : m = 0 := by omega
      subst this
      have : news = [] := List.eq_nil_of_length_eq_zero (by simpa using hl)
      subst this
      exact hk _ [] w .nil hS
    · have := hS.new e1 e2 e3 e4
      refine hk _ [(w.heap.size, _)] w' (.some (by simpa using hl) (ex := zerosV zero (c' - (0 + m))) (length_zerosV _ _) hc (by omega)) ?_
      simpa using this
  | @some b n c cs ex h2 h3 h4 h40 =>
    have hS' : Sat g w ((b, .cells (cs ++ ex).toArray e) :: H) := hS
    have hex : ∀ k, n + k ≤ c → k * zero.length ≤ ex.length := by
      intro k hk
      rw [h3]
      exact Nat.mul_le_mul_right _ (by omega)
    refine ⟨some ⟨b, 0, none⟩, n, c, m, news, rfl, hs, hl, h1, hb, hb2, fun h => .inr ⟨b, 0, (cs ++ ex).toArray, e, (0, 0), rfl, hS'.block (by simp), .inl rfl, ?_, ?_⟩, fun h => ⟨cs, h2, fun he => by simp at he, fun ad he => ?_, fun c' w' hc e1 e2 e3 e4 => ?_⟩⟩
    · have := hex m h
      simp only [List.size_toArray, List.length_append, h2, Nat.zero_add, Nat.add_mul]
      omega
    · have := hex m h
      have hw := wr_app news cs ex (by omega)
      rw [h2] at hw
      rw [Nat.zero_add, hw]
      refine hk _ [(b, _)] _ (.some (by simp [h2, hl, Nat.add_mul]) (ex := ex.drop news.length) ?_ h h40) hS'.set
      rw [List.length_drop, h3, hl, ← Nat.sub_mul]
      congr 1
      omega
    · injection he with he
      subst he
      intro j x hx
      rw [add_plain, Nat.zero_add]
      refine hS'.cellH (c := (cs ++ ex).toArray) (t := e) (fr := (0, 0)) (by simp) ?_
      simp only [List.getElem?_toArray]
      rw [List.getElem?_append_left (List.getElem?_eq_some_iff.1 hx).1]
      exact hx
    · have hn : Sat g w' ((w.heap.size, .cells (cs ++ news ++ zerosV zero (c' - (n + m))).toArray e) :: H) := hS'.tail.new e1 e2 e3 e4
      refine hk _ [(w.heap.size, _)] w' (.some (by simp [h2, hl, Nat.add_mul]) (length_zerosV _ _) hc (by omega)) hn

/-- What is put there is a block of one's own. -/
theorem Sat.srcH (hS : Sat g w H) {b : Nat} {ys : List Value} {t : TypeId} {fr : Nat × Nat} (hb : (b, .cells ys.toArray t fr) ∈ H) {m c : Nat} (hl : ys.length = m * sz) : Src w sz (.slice (some ⟨b, 0, none⟩) m c) m ys :=
  .inl ⟨_, _, rfl, hl, fun h => by simp at h, fun ad he => by
    injection he with he
    subst he
    intro j x hx
    rw [add_plain, Nat.zero_add]
    exact hS.cellH hb (by simpa using hx)⟩

/-- What is put there is a slice that stays. -/
theorem Sat.srcI (hS : Sat g w H) {x : Value} {m : Nat} {ys : List Value} (hx : Sl g sz x m ys) : Src w sz x m ys := by
  obtain ⟨a, c, rfl, h2, h3, h4⟩ := hx
  refine .inl ⟨_, _, rfl, h3, fun h => ?_, fun ad he => ?_⟩
  · rcases h4 with ⟨_, h4⟩ | ⟨b, o, h5, _⟩
    · exact h4
    · rw [h] at h5; simp at h5
  · rcases h4 with ⟨h4, _⟩ | ⟨b, o, h5, h6⟩
    · rw [he] at h4; simp at h4
    · rw [he] at h5
      injection h5 with h5
      subst h5
      intro j x hx
      rw [add_plain]
      exact hS.cellI (h6 j x hx)

/-- One element more: a block of one's own that has just been made. -/
theorem Sat.ap1 {b : Nat} {ys : List Value} {t : TypeId} {fr : Nat × Nat} (hS : Sat g w ((b, .cells ys.toArray t fr) :: (hp ++ H))) (hg : Grow e sz v n cs hp) {zero : List Value} (hz : zero.length = sz) {m c bytes : Nat} {K : Value → World → Prop}
    (hl : ys.length = m * sz) (h1 : allOne ys = true) (hb : (n + m) * bytes ≤ 140737488355328) (hb2 : n + m ≤ 9223372036854775807)
    (hk : ∀ v' hp' w', Grow e sz v' (n + m) (cs ++ ys) hp' → Sat g w' (hp' ++ H) → K v' w') : Vx.ap e sz bytes zero v (.slice (some ⟨b, 0, none⟩) m c) K w :=
  Sat.ap hS.tail hg hz (hS.srcH (t := t) (fr := fr) (by simp) hl) hl h1 hb hb2 hk

/-- Its elements. -/
theorem Sl.at (h : Sl g sz v n cs) (hS : Sat g w H) {k : IntKind} {j : Nat} (hj : j < n) (hsz : 0 < sz) {K : Value → World → Prop} (hk : ∀ b o, (∀ q x, ((cs.drop (j * sz)).take sz)[q]? = some x → g.cell? b (o + q) = some x) → K (ptr b o) w) : Vx.ia sz v (.int k (j : Int)) K w := by
  obtain ⟨a, c, rfl, h2, h3, h4⟩ := h
  rcases h4 with ⟨_, h4⟩ | ⟨b, o, rfl, h6⟩
  · subst h4
    have : n * sz = 0 := by simpa using h3.symm
    rcases Nat.mul_eq_zero.1 this with h | h <;> omega
  · refine ⟨b, o, n, c, k, j, rfl, rfl, by omega, by omega, ?_⟩
    refine hk _ _ fun q x hx => ?_
    rw [List.getElem?_take] at hx
    split at hx
    · rw [List.getElem?_drop] at hx
      have := h6 _ _ hx
      simpa [Nat.add_assoc] using this
    · simp at hx
/-- Cells are frozen: a block of one's own is another one. -/
theorem freeze_blk {b o k : Nat} {c : Array Value} {t : TypeId} {fr : Nat × Nat} (hb : w.heap[b]? = some (.cells c t fr)) : ∃ fr', w.freeze ⟨b, o, none⟩ k = setBlk w b (.cells c t fr') := by
  unfold World.freeze
  split
  · refine ⟨fr, ?_⟩
    have : w.heap.setIfInBounds b (.cells c t fr) = w.heap := by
      apply Array.ext
      · simp
      · intro i h1 h2
        rw [Array.getElem_setIfInBounds (by simpa using h1)]
        by_cases e : b = i
        · subst e
          simp only [if_true]
          exact (Array.getElem?_eq_some_iff.1 hb).2.symm
        · simp [e]
    unfold setBlk
    rw [this]
  · refine ⟨if fr.1 == fr.2 then (o, o + k) else (min fr.1 o, max fr.2 (o + k)), ?_⟩
    unfold setBlk
    congr 1
    apply Array.ext
    · simp
    · intro i h1 h2
      rw [Array.getElem_modify, Array.getElem_setIfInBounds (by simpa using h1)]
      by_cases e : b = i
      · subst e
        have := (Array.getElem?_eq_some_iff.1 hb).2
        obtain ⟨lo, hi⟩ := fr
        simp [this]
      · simp [e]
end Go.Vx
