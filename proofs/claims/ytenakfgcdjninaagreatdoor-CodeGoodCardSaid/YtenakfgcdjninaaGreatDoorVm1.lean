/- Part 1 of the walk: a calculus of conditions over the model, and contracts of the functions of the program, in their plain form. No claim stands here. -/
import Derived.Calls
import Derived.ChangeKeysEq
import Derived.KernelRfl
import Derived.Laws.Append
import Derived.Laws.AppendOwn
import Derived.Laws.Entries
import Derived.Laws.Sem
import Derived.Laws.Strings2
import Derived.Laws.World
import Derived.Lib.ConvBytes
import Derived.Orders
import Derived.OrdersIn
import Derived.RangeFuncRecord
import Derived.Scope
import GoSem.Core.Utf8
set_option linter.unusedVariables false
set_option linter.unusedSimpArgs false
set_option linter.unusedSectionVars false
set_option linter.unnecessarySimpa false
namespace Go.Vx

def letterB (c : UInt8) : Bool := (97 ≤ c && c ≤ 122) || (65 ≤ c && c ≤ 90)
def digitB (c : UInt8) : Bool := 48 ≤ c && c ≤ 57
def idB (c : UInt8) : Bool := letterB c || digitB c || c == 95
def blankL : List UInt8 := [32, 9, 10, 13]
def signL : List UInt8 := [43, 45, 42, 47, 92, 60, 62, 61, 126, 44, 64, 37, 38, 63]
def singleL : List UInt8 := [40, 41, 91, 93, 124, 94, 46, 59]
def idxGo (c : UInt8) : List UInt8 → Nat → Option Nat
  | [], _ => none
  | x :: l, i => bif x == c then some i else idxGo c l (i + 1)
/-- Where a byte stands. -/
def idx (c : UInt8) (l : List UInt8) : Option Nat := idxGo c l 0
def signB (c : UInt8) : Bool := (idx c signL).isSome
def blankB (c : UInt8) : Bool := (idx c blankL).isSome

def scan (p : UInt8 → Bool) : List UInt8 → Nat
  | [] => 0
  | c :: l => bif p c then scan p l + 1 else 0
def isAt (p : UInt8 → Bool) (s : List UInt8) (i : Nat) : Bool := (s[i]?).elim false p
def skipS (p : UInt8 → Bool) (s : List UInt8) (i : Nat) : Nat := i + scan p (s.drop i)
def peekS (s : List UInt8) (i : Nat) : UInt8 := s.getD i 0
def nameS (s : List UInt8) (i : Nat) : Bool × Nat := bif isAt letterB s i then (true, skipS idB s i) else (false, i)
def colonS (s : List UInt8) (i : Nat) : Bool := peekS s i == 58 && peekS s (i + 1) != 61
def signS (s : List UInt8) (i : Nat) : Nat := bif isAt signB s i then (bif isAt signB s (i + 1) then i + 2 else i + 1) else i

/-- What stands in quotes, behind the first one: what it says, whether it can be, how far. -/
def quoGo : Nat → List UInt8 → Nat → List UInt8 → (List UInt8 × Bool) × Nat
  | 0, _, i, _ => (([], false), i)
  | f + 1, s, i, acc => match s[i]? with
    | none => (([], false), i)
    | some c => bif c == 39 then (bif peekS s (i + 1) == 39 then quoGo f s (i + 2) (acc ++ [39]) else ((acc, Nat.ble acc.length 1024), i + 1)) else quoGo f s (i + 1) (acc ++ [c])
def quotedS (s : List UInt8) (i : Nat) : (List UInt8 × Bool) × Nat := bif peekS s i == 39 then quoGo (s.length + 1) s (i + 1) [] else (([], false), i)

def cut (s : List UInt8) (i j : Nat) : List UInt8 := (s.drop i).take (j - i)
def colGo : Nat → List UInt8 → Nat → Nat
  | 0, _, i => i
  | f + 1, s, i => bif colonS s i then colGo f s (nameS s (i + 1)).2 else i
def symbolS (s : List UInt8) (i : Nat) : (List UInt8 × Bool) × Nat :=
  bif (nameS s i).1 then
    let k := colGo (s.length + 1) s (nameS s i).2
    ((cut s i k, Nat.ble (k - i) 1024), k)
  else
    let j := signS s i
    bif Nat.blt i j then ((cut s i j, Nat.ble (j - i) 1024), j) else quotedS s i

structure Tok where
  kind : Nat
  text : List UInt8
  pos : Nat
  deriving DecidableEq

/-- A number's value by its digits. -/
def decV : List UInt8 → Nat → Nat
  | [], n => n
  | c :: l, n => decV l (n * 10 + (c.toNat - 48))
/-- A number that can be. -/
def numB (t : List UInt8) : Bool := (Nat.ble t.length 1 || t.getD 0 0 != 48) && Nat.ble t.length 400 && Nat.blt (decV t 0) (256 ^ 128)

def wordS (s : List UInt8) (i : Nat) : (Tok × Bool) × Nat :=
  let c := peekS s i
  let made (k : Nat) (ok : Bool) (j : Nat) : (Tok × Bool) × Nat := ((⟨k, cut s i j, i⟩, ok), j)
  bif letterB c then
    let j := (nameS s i).2
    bif colonS s j then made 2 true (j + 1) else made 1 true j
  else bif digitB c then
    let j := skipS digitB s i
    made 4 (numB (cut s i j)) j
  else bif c == 39 then ((⟨5, (quotedS s i).1.1, i⟩, (quotedS s i).1.2), (quotedS s i).2)
  else bif c == 35 && peekS s (i + 1) == 40 then made 17 true (i + 2)
  else bif c == 35 then ((⟨6, (symbolS s (i + 1)).1.1, i⟩, (symbolS s (i + 1)).1.2), (symbolS s (i + 1)).2)
  else bif c == 58 && peekS s (i + 1) == 61 then made 7 true (i + 2)
  else bif c == 58 then made 16 true (i + 1)
  else bif Nat.blt i (signS s i) then made 3 true (signS s i)
  else match idx c singleL with
    | some k => made (8 + k) true (i + 1)
    | none => made 7 false (i + 1)

/-- Words; where it is none. -/
def readGo : Nat → List UInt8 → Nat → List Tok → Except Nat (List Tok)
  | 0, _, i, _ => .error i
  | f + 1, s, i0, acc =>
    let i := skipS blankB s i0
    bif Nat.beq i s.length then .ok (acc ++ [⟨0, [], i⟩])
    else bif peekS s i == 34 then
      (match idx 34 (s.drop (i + 1)) with
      | none => .error i
      | some k => readGo f s (i + (k + 2)) acc)
    else bif (wordS s i).1.2 then readGo f s (wordS s i).2 (acc ++ [(wordS s i).1.1])
    else .error i
def readS (s : List UInt8) : Except (Nat × Nat) (List Tok) :=
  bif Nat.blt 4096 s.length then .error (0, 3)
  else match readGo (s.length + 1) s 0 [] with
    | .ok l => .ok l
    | .error i => .error (i, 20)
end Go.Vx
namespace Go.Vx

inductive Node where
  | mk (kind : Nat) (text : List UInt8) (pos n : Nat) (names : List (List UInt8)) (kids : List Node)

namespace Node
def kind : Node → Nat | mk k _ _ _ _ _ => k
def text : Node → List UInt8 | mk _ t _ _ _ _ => t
def pos : Node → Nat | mk _ _ p _ _ _ => p
def n : Node → Nat | mk _ _ _ n _ _ => n
def names : Node → List (List UInt8) | mk _ _ _ _ x _ => x
def kids : Node → List Node | mk _ _ _ _ _ x => x
end Node
def nod0 : Node := .mk 0 [] 0 0 [] []

inductive Res (α : Type) where
  | out
  | bad (p e : Nat)
  | ok (a : α) (l : List Tok)

def Res.andThen {α β : Type} (r : Res α) (k : α → List Tok → Res β) : Res β :=
  match r with
  | .out => .out
  | .bad p e => .bad p e
  | .ok a l => k a l

def hd (l : List Tok) : Tok := l.headD ⟨0, [], 0⟩
def kd (l : List Tok) : Nat := (hd l).kind
def tk (l : List Tok) : List Tok := bif Nat.beq (kd l) 0 then l else l.tail
def syn {α : Type} (l : List Tok) : Res α := .bad (hd l).pos 20
def needS (k : Nat) (l : List Tok) : Res Tok := bif Nat.beq (kd l) k then .ok (hd l) (tk l) else syn l
/-- One deeper, over a word. -/
def within {α : Type} (d : Nat) (l : List Tok) (k : Nat → List Tok → Res α) : Res α := bif Nat.beq d 40 then .bad (hd l).pos 3 else k (d + 1) (tk l)

def trueT : List UInt8 := [116, 114, 117, 101]
def falseT : List UInt8 := [102, 97, 108, 115, 101]
def nilT : List UInt8 := [110, 105, 108]
def leaf (k : Nat) (l : List Tok) : Res Node := .ok (.mk k (hd l).text (hd l).pos 0 [] []) (tk l)
def sendN (n m : Node) : Node := .mk 7 m.text m.pos 0 [] (n :: m.kids)
def addKid (n k : Node) : Node := .mk n.kind n.text n.pos n.n n.names (n.kids ++ [k])
def addName (n : Node) (t : List UInt8) : Node := .mk n.kind n.text n.pos n.n (n.names ++ [t]) n.kids

mutual
def expr : Nat → Nat → List Tok → Res Node
  | 0, _, _ => .out
  | f + 1, d, l => bif Nat.beq (kd l) 1 && Nat.beq (kd l.tail) 7 then
      within d (tk l) fun d l1 => (expr f d l1).andThen fun e l2 => .ok (.mk 6 (hd l).text (hd l).pos 0 [] [e]) l2
    else casc f d l
def casc : Nat → Nat → List Tok → Res Node
  | 0, _, _ => .out
  | f + 1, d, l => (keyed f d l).andThen fun np l1 =>
      bif Nat.beq (kd l1) 15 then
        (bif Nat.beq np.1.kind 7 && np.2 then cascL f d np.1.pos [np.1.kids.headD nod0, .mk 9 np.1.text np.1.pos 0 [] np.1.kids.tail] l1 else syn l1)
      else .ok np.1 l1
def cascL : Nat → Nat → Nat → List Node → List Tok → Res Node
  | 0, _, _, _, _ => .out
  | f + 1, d, pos, kids, l => bif Nat.beq (kd l) 15 then (msg f d (tk l)).andThen fun m l1 => cascL f d pos (kids ++ [m]) l1
      else .ok (.mk 8 [] pos 0 [] kids) l
def msg : Nat → Nat → List Tok → Res Node
  | 0, _, _ => .out
  | f + 1, d, l =>
    bif Nat.beq (kd l) 1 then .ok (.mk 9 (hd l).text (hd l).pos 0 [] []) (tk l)
    else bif Nat.beq (kd l) 3 then (unary f d (tk l)).andThen fun np l1 => .ok (.mk 9 (hd l).text (hd l).pos 0 [] [np.1]) l1
    else bif Nat.beq (kd l) 2 then msgL f d (hd l).pos [] [] l
    else syn l
def msgL : Nat → Nat → Nat → List UInt8 → List Node → List Tok → Res Node
  | 0, _, _, _, _, _ => .out
  | f + 1, d, pos, text, kids, l => bif Nat.beq (kd l) 2 then (binary f d (tk l)).andThen fun np l1 => msgL f d pos (text ++ (hd l).text) (kids ++ [np.1]) l1
      else .ok (.mk 9 text pos 0 [] kids) l
def chainL : Nat → Nat → Nat → Bool → Node → Bool → List Tok → Res (Node × Bool)
  | 0, _, _, _, _, _, _ => .out
  | f + 1, d, k, once, n, plain, l => bif Nat.beq (kd l) k then
      (msg f d l).andThen fun m l1 => bif once then .ok (sendN n m, true) l1 else chainL f d k once (sendN n m) true l1
    else .ok (n, plain) l
def keyed : Nat → Nat → List Tok → Res (Node × Bool)
  | 0, _, _ => .out
  | f + 1, d, l => (binary f d l).andThen fun np l1 => chainL f d 2 true np.1 np.2 l1
def binary : Nat → Nat → List Tok → Res (Node × Bool)
  | 0, _, _ => .out
  | f + 1, d, l => (unary f d l).andThen fun np l1 => chainL f d 3 false np.1 np.2 l1
def unary : Nat → Nat → List Tok → Res (Node × Bool)
  | 0, _, _ => .out
  | f + 1, d, l => (prim f d l).andThen fun np l1 => chainL f d 1 false np.1 np.2 l1
def prim : Nat → Nat → List Tok → Res (Node × Bool)
  | 0, _, _ => .out
  | f + 1, d, l =>
    let lf (k : Nat) : Res (Node × Bool) := (leaf k l).andThen fun n l1 => .ok (n, true) l1
    bif Nat.beq (kd l) 1 then lf 5
    else bif Nat.beq (kd l) 4 then lf 1
    else bif Nat.beq (kd l) 5 then lf 2
    else bif Nat.beq (kd l) 6 then lf 3
    else bif Nat.beq (kd l) 17 then (lst f d l).andThen fun n l1 => .ok (n, true) l1
    else bif Nat.beq (kd l) 10 then (blk f d l).andThen fun n l1 => .ok (n, true) l1
    else bif Nat.beq (kd l) 8 then within d l fun d l1 => (expr f d l1).andThen fun e l2 => (needS 9 l2).andThen fun _ l3 => .ok (e, false) l3
    else syn l
def lst : Nat → Nat → List Tok → Res Node
  | 0, _, _ => .out
  | f + 1, d, l => within d l fun d l1 => lstL f d (hd l).pos [] l1
def lstL : Nat → Nat → Nat → List Node → List Tok → Res Node
  | 0, _, _, _, _ => .out
  | f + 1, d, pos, kids, l => bif Nat.beq (kd l) 9 then .ok (.mk 4 [] pos 0 [] kids) (tk l)
      else (elem f d l).andThen fun e l1 => lstL f d pos (kids ++ [e]) l1
def elem : Nat → Nat → List Tok → Res Node
  | 0, _, _ => .out
  | f + 1, d, l =>
    bif Nat.beq (kd l) 17 || Nat.beq (kd l) 8 then lst f d l
    else bif Nat.beq (kd l) 4 then leaf 1 l
    else bif Nat.beq (kd l) 5 then leaf 2 l
    else bif Nat.beq (kd l) 1 then leaf (bif (hd l).text == trueT || ((hd l).text == falseT || (hd l).text == nilT) then 13 else 3) l
    else bif Nat.beq (kd l) 6 || (Nat.beq (kd l) 2 || Nat.beq (kd l) 3) then leaf 3 l
    else syn l
def blk : Nat → Nat → List Tok → Res Node
  | 0, _, _ => .out
  | f + 1, d, l => within d l fun d l1 => blkN f d (hd l).pos [] l1
def blkN : Nat → Nat → Nat → List (List UInt8) → List Tok → Res Node
  | 0, _, _, _, _ => .out
  | f + 1, d, pos, names, l => bif Nat.beq (kd l) 16 then (needS 1 (tk l)).andThen fun t l1 => blkN f d pos (names ++ [t.text]) l1
      else bif Nat.blt 0 names.length && !Nat.beq (kd l) 11 then
        (needS 12 l).andThen fun _ l1 => (body f d 11 (.mk 10 [] pos names.length names []) l1).andThen fun n l2 => .ok n (tk l2)
      else (body f d 11 (.mk 10 [] pos names.length names []) l).andThen fun n l2 => .ok n (tk l2)
def body : Nat → Nat → Nat → Node → List Tok → Res Node
  | 0, _, _, _, _ => .out
  | f + 1, d, k, n, l => bif Nat.beq (kd l) 12 then bodyN f d k n (tk l) else bodyL f d k n l
def bodyN : Nat → Nat → Nat → Node → List Tok → Res Node
  | 0, _, _, _, _ => .out
  | f + 1, d, k, n, l => bif Nat.beq (kd l) 1 then bodyN f d k (addName n (hd l).text) (tk l)
      else (needS 12 l).andThen fun _ l1 => bodyL f d k n l1
def bodyL : Nat → Nat → Nat → Node → List Tok → Res Node
  | 0, _, _, _, _ => .out
  | f + 1, d, k, n, l => bif Nat.beq (kd l) k then .ok n l
      else (stmt f d l).andThen fun kl l1 =>
        bif Nat.beq (kd l1) 14 && !kl.2 then bodyL f d k (addKid n kl.1) (tk l1)
        else
          let l2 := bif Nat.beq (kd l1) 14 then tk l1 else l1
          bif Nat.beq (kd l2) k then .ok (addKid n kl.1) l2 else syn l2
def stmt : Nat → Nat → List Tok → Res (Node × Bool)
  | 0, _, _ => .out
  | f + 1, d, l => bif Nat.beq (kd l) 13 then (expr f d (tk l)).andThen fun e l1 => .ok (.mk 11 [] (hd l).pos 0 [] [e], true) l1
      else (expr f d l).andThen fun e l1 => .ok (e, false) l1
end

def fuelOf (l : List Tok) : Nat := 20 * l.length + 40
/-- A method's pattern, behind its first word. -/
def patL : Nat → List UInt8 → List (List UInt8) → List Tok → Res (List UInt8 × List (List UInt8))
  | 0, _, _, _ => .out
  | f + 1, text, names, l => bif Nat.beq (kd l) 2 then (needS 1 (tk l)).andThen fun t l1 => patL f (text ++ (hd l).text) (names ++ [t.text]) l1
      else .ok (text, names) l
def patS (l : List Tok) : Res Node :=
  let done (x : List UInt8 × List (List UInt8)) (l1 : List Tok) : Res Node := .ok (.mk 12 x.1 0 x.2.length x.2 []) l1
  bif Nat.beq (kd l) 1 then done ((hd l).text, []) (tk l)
  else bif Nat.beq (kd l) 3 then (needS 1 (tk l)).andThen fun t l1 => done ((hd l).text, [t.text]) l1
  else bif Nat.beq (kd l) 2 then (needS 1 (tk l)).andThen fun t l1 => (patL (l1.length + 1) (hd l).text [t.text] l1).andThen done
  else syn l
def unitS (s : List UInt8) (head : List Tok → Res Node) : Except (Nat × Nat) Node :=
  match readS s with
  | .error x => .error x
  | .ok l => match (head l).andThen fun n l1 => body (fuelOf l) 0 0 n l1 with
    | .ok n _ => .ok n
    | .bad p e => .error (p, e)
    | .out => .error (0, 0)
def parseS (s : List UInt8) : Except (Nat × Nat) Node := unitS s fun l => .ok (.mk 12 [] 0 0 [] []) l
def methodS (s : List UInt8) : Except (Nat × Nat) Node := unitS s patS
end Go.Vx
namespace Go.Vx

theorem andThen_ok {α β : Type} {r : Res α} {k : α → List Tok → Res β} {b : β} {l' : List Tok} (h : r.andThen k = .ok b l') : ∃ a l1, r = .ok a l1 ∧ k a l1 = .ok b l' := by
  cases r with
  | out => simp [Res.andThen] at h
  | bad p e => simp [Res.andThen] at h
  | ok a l => exact ⟨a, l, rfl, h⟩

theorem cond_or {α : Type} {c : Bool} {x y z : α} (h : (bif c then x else y) = z) : (c = true ∧ x = z) ∨ (c = false ∧ y = z) := by
  cases c
  · exact .inr ⟨rfl, h⟩
  · exact .inl ⟨rfl, h⟩

theorem tk_le (l : List Tok) : (tk l).length ≤ l.length := by
  unfold tk
  cases Nat.beq (kd l) 0
  · simp
  · exact Nat.le_refl _

theorem tk_lt {l : List Tok} {k : Nat} (h : Nat.beq (kd l) k = true) (hk : k ≠ 0) : (tk l).length < l.length := by
  have h := Nat.eq_of_beq_eq_true h
  unfold tk
  have hb : Nat.beq (kd l) 0 = false := by
    cases hb : Nat.beq (kd l) 0 with
    | false => rfl
    | true => have := Nat.eq_of_beq_eq_true hb; omega
  rw [hb]
  cases l with
  | nil => simp [kd, hd] at h; omega
  | cons t l => simp

def SendOK (n : Node) : Prop := n.kind = 7 → n.kids ≠ []

theorem need_ok {k : Nat} {l : List Tok} {t : Tok} {l' : List Tok} (h : needS k l = .ok t l') : Nat.beq (kd l) k = true ∧ t = hd l ∧ l' = tk l := by
  unfold needS at h
  rcases cond_or h with ⟨h1, h2⟩ | ⟨_, h2⟩
  · injection h2 with h2 h3
    exact ⟨h1, h2.symm, h3.symm⟩
  · simp [syn] at h2

theorem within_ok {α : Type} {d : Nat} {l : List Tok} {k : Nat → List Tok → Res α} {a : α} {l' : List Tok} (h : within d l k = .ok a l') : Nat.beq d 40 = false ∧ k (d + 1) (tk l) = .ok a l' := by
  unfold within at h
  rcases cond_or h with ⟨_, h2⟩ | ⟨h1, h2⟩
  · simp at h2
  · exact ⟨h1, h2⟩

structure Prog (f : Nat) : Prop where
  expr : ∀ {d l n l'}, expr f d l = .ok n l' → l'.length < l.length ∧ SendOK n
  casc : ∀ {d l n l'}, casc f d l = .ok n l' → l'.length < l.length ∧ SendOK n
  cascL : ∀ {d p ks l n l'}, cascL f d p ks l = .ok n l' → l'.length ≤ l.length ∧ SendOK n
  msg : ∀ {d l n l'}, msg f d l = .ok n l' → l'.length < l.length
  msgL : ∀ {d p t ks l n l'}, msgL f d p t ks l = .ok n l' → l'.length ≤ l.length ∧ (Nat.beq (kd l) 2 = true → l'.length < l.length)
  chainL : ∀ {d k o n p l x l'}, chainL f d k o n p l = .ok x l' → SendOK n → l'.length ≤ l.length ∧ SendOK x.1
  keyed : ∀ {d l x l'}, keyed f d l = .ok x l' → l'.length < l.length ∧ SendOK x.1
  binary : ∀ {d l x l'}, binary f d l = .ok x l' → l'.length < l.length ∧ SendOK x.1
  unary : ∀ {d l x l'}, unary f d l = .ok x l' → l'.length < l.length ∧ SendOK x.1
  prim : ∀ {d l x l'}, prim f d l = .ok x l' → l'.length < l.length ∧ SendOK x.1
  lst : ∀ {d l n l'}, lst f d l = .ok n l' → l'.length < l.length ∧ SendOK n
  lstL : ∀ {d p ks l n l'}, lstL f d p ks l = .ok n l' → l'.length < l.length ∧ SendOK n
  elem : ∀ {d l n l'}, elem f d l = .ok n l' → l'.length < l.length ∧ SendOK n
  blk : ∀ {d l n l'}, blk f d l = .ok n l' → Nat.beq (kd l) 10 = true → l'.length < l.length ∧ SendOK n
  blkN : ∀ {d p ns l n l'}, blkN f d p ns l = .ok n l' → l'.length ≤ l.length ∧ n.kind = 10
  body : ∀ {d k n l n' l'}, body f d k n l = .ok n' l' → l'.length ≤ l.length ∧ n'.kind = n.kind
  bodyN : ∀ {d k n l n' l'}, bodyN f d k n l = .ok n' l' → l'.length ≤ l.length ∧ n'.kind = n.kind
  bodyL : ∀ {d k n l n' l'}, bodyL f d k n l = .ok n' l' → l'.length ≤ l.length ∧ n'.kind = n.kind
  stmt : ∀ {d l x l'}, stmt f d l = .ok x l' → l'.length < l.length ∧ SendOK x.1

theorem sendOK_of {k : Nat} {t : List UInt8} {p n : Nat} {ns : List (List UInt8)} {ks : List Node} (h : k ≠ 7) : SendOK (.mk k t p n ns ks) := fun e => absurd e h

theorem leaf_ok {k j : Nat} {l : List Tok} {n : Node} {l' : List Tok} (h : leaf k l = .ok n l') (hj : Nat.beq (kd l) j = true) (h0 : j ≠ 0) (hk : k ≠ 7) : l'.length < l.length ∧ SendOK n := by
  unfold leaf at h
  injection h with h1 h2
  subst h1 h2
  exact ⟨tk_lt hj h0, sendOK_of hk⟩

theorem prog : ∀ f, Prog f := by
  intro f
  induction f with
  | zero => constructor <;> intros <;> simp_all [expr, casc, cascL, msg, msgL, chainL, keyed, binary, unary, prim, lst, lstL, elem, blk, blkN, body, bodyN, bodyL, stmt]
  | succ f ih =>
    constructor
    · intro d l n l' h
      simp only [expr] at h
      rcases cond_or h with ⟨h1, h2⟩ | ⟨_, h2⟩
      · rw [Bool.and_eq_true] at h1
        obtain ⟨_, h3⟩ := within_ok h2
        obtain ⟨e, l2, h4, h5⟩ := andThen_ok h3
        injection h5 with h5 h6
        subst h5 h6
        have := (ih.expr h4).1
        have h7 := tk_lt h1.1 (by decide)
        have h8 := tk_le (tk l)
        exact ⟨by omega, sendOK_of (by decide)⟩
      · exact ih.casc h2
    · intro d l n l' h
      simp only [casc] at h
      obtain ⟨x, l1, h1, h2⟩ := andThen_ok h
      have h3 := ih.keyed h1
      rcases cond_or h2 with ⟨_, h4⟩ | ⟨_, h4⟩
      · rcases cond_or h4 with ⟨_, h5⟩ | ⟨_, h5⟩
        · have := ih.cascL h5
          exact ⟨by omega, this.2⟩
        · simp [syn] at h5
      · injection h4 with h4 h5
        subst h4 h5
        exact h3
    · intro d p ks l n l' h
      simp only [cascL] at h
      rcases cond_or h with ⟨h1, h2⟩ | ⟨_, h2⟩
      · obtain ⟨m, l1, h3, h4⟩ := andThen_ok h2
        have h5 := ih.msg h3
        have h6 := ih.cascL h4
        have h7 := tk_le l
        exact ⟨by omega, h6.2⟩
      · injection h2 with h2 h3
        subst h2 h3
        exact ⟨Nat.le_refl _, sendOK_of (by decide)⟩
    · intro d l n l' h
      simp only [msg] at h
      rcases cond_or h with ⟨h1, h2⟩ | ⟨_, h2⟩
      · injection h2 with h2 h3
        subst h3
        exact tk_lt h1 (by decide)
      · rcases cond_or h2 with ⟨h1, h2⟩ | ⟨_, h2⟩
        · obtain ⟨x, l1, h3, h4⟩ := andThen_ok h2
          injection h4 with h4 h5
          subst h5
          have := (ih.unary h3).1
          have h7 := tk_le l
          omega
        · rcases cond_or h2 with ⟨h1, h2⟩ | ⟨_, h2⟩
          · exact (ih.msgL h2).2 h1
          · simp [syn] at h2
    · intro d p t ks l n l' h
      simp only [msgL] at h
      rcases cond_or h with ⟨h1, h2⟩ | ⟨h1, h2⟩
      · obtain ⟨x, l1, h3, h4⟩ := andThen_ok h2
        have h5 := (ih.binary h3).1
        have h6 := (ih.msgL h4).1
        have h7 := tk_le l
        exact ⟨by omega, fun _ => by omega⟩
      · injection h2 with h2 h3
        subst h3
        exact ⟨Nat.le_refl _, fun h => by rw [h] at h1; simp at h1⟩
    · intro d k o n p l x l' h hs
      simp only [chainL] at h
      rcases cond_or h with ⟨h1, h2⟩ | ⟨h1, h2⟩
      · obtain ⟨m, l1, h3, h4⟩ := andThen_ok h2
        have h5 := ih.msg h3
        rcases cond_or h4 with ⟨_, h6⟩ | ⟨_, h6⟩
        · injection h6 with h6 h7
          subst h6 h7
          exact ⟨by omega, fun _ => by simp [sendN, Node.kids]⟩
        · have := ih.chainL h6 (fun _ => by simp [sendN, Node.kids])
          exact ⟨by omega, this.2⟩
      · injection h2 with h2 h3
        subst h2 h3
        exact ⟨Nat.le_refl _, hs⟩
    · intro d l x l' h
      simp only [keyed] at h
      obtain ⟨y, l1, h1, h2⟩ := andThen_ok h
      have h3 := ih.binary h1
      have h4 := ih.chainL h2 h3.2
      exact ⟨by omega, h4.2⟩
    · intro d l x l' h
      simp only [binary] at h
      obtain ⟨y, l1, h1, h2⟩ := andThen_ok h
      have h3 := ih.unary h1
      have h4 := ih.chainL h2 h3.2
      exact ⟨by omega, h4.2⟩
    · intro d l x l' h
      simp only [unary] at h
      obtain ⟨y, l1, h1, h2⟩ := andThen_ok h
      have h3 := ih.prim h1
      have h4 := ih.chainL h2 h3.2
      exact ⟨by omega, h4.2⟩
    · intro d l x l' h
      simp only [prim] at h
      have lf : ∀ k j, ((leaf k l).andThen fun n l1 => Res.ok (n, true) l1) = .ok x l' → Nat.beq (kd l) j = true → j ≠ 0 → k ≠ 7 → l'.length < l.length ∧ SendOK x.1 := by
        intro k j h hj h0 hk
        obtain ⟨n, l1, h1, h2⟩ := andThen_ok h
        injection h2 with h2 h3
        subst h2 h3
        exact leaf_ok h1 hj h0 hk
      rcases cond_or h with ⟨h1, h2⟩ | ⟨_, h⟩
      · exact lf _ _ h2 h1 (by decide) (by decide)
      rcases cond_or h with ⟨h1, h2⟩ | ⟨_, h⟩
      · exact lf _ _ h2 h1 (by decide) (by decide)
      rcases cond_or h with ⟨h1, h2⟩ | ⟨_, h⟩
      · exact lf _ _ h2 h1 (by decide) (by decide)
      rcases cond_or h with ⟨h1, h2⟩ | ⟨_, h⟩
      · exact lf _ _ h2 h1 (by decide) (by decide)
      rcases cond_or h with ⟨h1, h2⟩ | ⟨_, h⟩
      · obtain ⟨n, l1, h3, h4⟩ := andThen_ok h2
        injection h4 with h4 h5
        subst h4 h5
        exact ih.lst h3
      rcases cond_or h with ⟨h1, h2⟩ | ⟨_, h⟩
      · obtain ⟨n, l1, h3, h4⟩ := andThen_ok h2
        injection h4 with h4 h5
        subst h4 h5
        exact ih.blk h3 h1
      rcases cond_or h with ⟨h1, h2⟩ | ⟨_, h⟩
      · obtain ⟨_, h3⟩ := within_ok h2
        obtain ⟨e, l2, h4, h5⟩ := andThen_ok h3
        obtain ⟨t, l3, h6, h7⟩ := andThen_ok h5
        injection h7 with h7 h8
        subst h7 h8
        have h9 := ih.expr h4
        have h10 := need_ok h6
        have h11 := tk_le l
        have h12 := tk_le l2
        rw [← h10.2.2] at h12
        exact ⟨by omega, h9.2⟩
      · simp [syn] at h
    · intro d l n l' h
      simp only [lst] at h
      obtain ⟨_, h3⟩ := within_ok h
      have h4 := ih.lstL h3
      have h11 := tk_le l
      exact ⟨by omega, h4.2⟩
    · intro d p ks l n l' h
      simp only [lstL] at h
      rcases cond_or h with ⟨h1, h2⟩ | ⟨h1, h2⟩
      · injection h2 with h2 h3
        subst h2 h3
        exact ⟨tk_lt h1 (by decide), sendOK_of (by decide)⟩
      · obtain ⟨e, l1, h3, h4⟩ := andThen_ok h2
        have h5 := ih.elem h3
        have h6 := ih.lstL h4
        exact ⟨by omega, h6.2⟩
    · intro d l n l' h
      simp only [elem] at h
      rcases cond_or h with ⟨h1, h2⟩ | ⟨_, h⟩
      · exact ih.lst h2
      rcases cond_or h with ⟨h1, h2⟩ | ⟨_, h⟩
      · exact leaf_ok h2 h1 (by decide) (by decide)
      rcases cond_or h with ⟨h1, h2⟩ | ⟨_, h⟩
      · exact leaf_ok h2 h1 (by decide) (by decide)
      rcases cond_or h with ⟨h1, h2⟩ | ⟨_, h⟩
      · refine leaf_ok h2 h1 (by decide) ?_
        cases (hd l).text == trueT || ((hd l).text == falseT || (hd l).text == nilT) <;> decide
      rcases cond_or h with ⟨h1, h2⟩ | ⟨_, h⟩
      · rw [Bool.or_eq_true, Bool.or_eq_true] at h1
        rcases h1 with h1 | h1 | h1
        · exact leaf_ok h2 h1 (by decide) (by decide)
        · exact leaf_ok h2 h1 (by decide) (by decide)
        · exact leaf_ok h2 h1 (by decide) (by decide)
      · simp [syn] at h
    · intro d l n l' h hk
      simp only [blk] at h
      obtain ⟨_, h3⟩ := within_ok h
      have h4 := ih.blkN h3
      have h11 := tk_lt hk (by decide)
      exact ⟨by omega, fun e => by rw [h4.2] at e; simp at e⟩
    · intro d p ns l n l' h
      simp only [blkN] at h
      rcases cond_or h with ⟨h1, h2⟩ | ⟨h1, h⟩
      · obtain ⟨t, l1, h3, h4⟩ := andThen_ok h2
        have h5 := need_ok h3
        have h6 := ih.blkN h4
        have h7 := tk_le l
        have h8 := tk_le (tk l)
        rw [← h5.2.2] at h8
        exact ⟨by omega, h6.2⟩
      rcases cond_or h with ⟨h1, h2⟩ | ⟨h1, h⟩
      · obtain ⟨t, l1, h3, h4⟩ := andThen_ok h2
        obtain ⟨m, l2, h6, h7⟩ := andThen_ok h4
        injection h7 with h7 h8
        subst h7 h8
        have h5 := need_ok h3
        have h9 := ih.body h6
        have h10 := tk_le l
        have h11 := tk_le l2
        rw [← h5.2.2] at h10
        exact ⟨by omega, h9.2⟩
      · obtain ⟨m, l2, h6, h7⟩ := andThen_ok h
        injection h7 with h7 h8
        subst h7 h8
        have h9 := ih.body h6
        have h11 := tk_le l2
        exact ⟨by omega, h9.2⟩
    · intro d k n l n' l' h
      simp only [body] at h
      rcases cond_or h with ⟨h1, h2⟩ | ⟨h1, h⟩
      · have := ih.bodyN h2
        have h10 := tk_le l
        exact ⟨by omega, this.2⟩
      · exact ih.bodyL h
    · intro d k n l n' l' h
      simp only [bodyN] at h
      rcases cond_or h with ⟨h1, h2⟩ | ⟨h1, h⟩
      · have := ih.bodyN h2
        have h10 := tk_le l
        exact ⟨by omega, this.2⟩
      · obtain ⟨t, l1, h3, h4⟩ := andThen_ok h
        have h5 := need_ok h3
        have h9 := ih.bodyL h4
        have h10 := tk_le l
        rw [← h5.2.2] at h10
        exact ⟨by omega, h9.2⟩
    · intro d k n l n' l' h
      simp only [bodyL] at h
      rcases cond_or h with ⟨h1, h2⟩ | ⟨h1, h⟩
      · injection h2 with h2 h3
        subst h2 h3
        exact ⟨Nat.le_refl _, rfl⟩
      · obtain ⟨x, l1, h3, h4⟩ := andThen_ok h
        have h5 := ih.stmt h3
        rcases cond_or h4 with ⟨h6, h7⟩ | ⟨_, h7⟩
        · have h8 := ih.bodyL h7
          have h10 := tk_le l1
          exact ⟨by omega, h8.2⟩
        · have h10 : (bif Nat.beq (kd l1) 14 then tk l1 else l1).length ≤ l1.length := by
            cases Nat.beq (kd l1) 14
            · exact Nat.le_refl _
            · exact tk_le l1
          rcases cond_or h7 with ⟨h8, h9⟩ | ⟨_, h9⟩
          · injection h9 with h9 h11
            subst h9 h11
            exact ⟨by omega, rfl⟩
          · simp [syn] at h9
    · intro d l x l' h
      simp only [stmt] at h
      rcases cond_or h with ⟨h1, h2⟩ | ⟨h1, h⟩
      · obtain ⟨e, l1, h3, h4⟩ := andThen_ok h2
        injection h4 with h4 h5
        subst h4 h5
        have := (ih.expr h3).1
        have h10 := tk_le l
        exact ⟨by omega, sendOK_of (by decide)⟩
      · obtain ⟨e, l1, h3, h4⟩ := andThen_ok h
        injection h4 with h4 h5
        subst h4 h5
        exact ih.expr h3

theorem andThen_out {α β : Type} {r : Res α} {k : α → List Tok → Res β} (h1 : r ≠ .out) (h2 : ∀ a l, r = .ok a l → k a l ≠ .out) : r.andThen k ≠ .out := by
  cases r with
  | out => exact absurd rfl h1
  | bad p e => simp [Res.andThen]
  | ok a l => exact h2 a l rfl

theorem cond_out {α : Type} {c : Bool} {x y z : α} (h1 : c = true → x ≠ z) (h2 : c = false → y ≠ z) : (bif c then x else y) ≠ z := by
  cases c
  · exact h2 rfl
  · exact h1 rfl

theorem within_out {α : Type} {d : Nat} {l : List Tok} {k : Nat → List Tok → Res α} (h : k (d + 1) (tk l) ≠ .out) : within d l k ≠ .out := by
  unfold within
  exact cond_out (fun _ => by simp) (fun _ => h)

theorem need_out {k : Nat} {l : List Tok} : needS k l ≠ .out := by
  unfold needS
  exact cond_out (fun _ => by simp) (fun _ => by simp [syn])

theorem msgL_kids : ∀ {f d p : Nat} {t : List UInt8} {ks : List Node} {l : List Tok} {n : Node} {l' : List Tok}, msgL f d p t ks l = .ok n l' → n.kids.length + l'.length ≤ ks.length + l.length := by
  intro f
  induction f with
  | zero => intro d p t ks l n l' h; simp [msgL] at h
  | succ f ih =>
    intro d p t ks l n l' h
    simp only [msgL] at h
    rcases cond_or h with ⟨h1, h2⟩ | ⟨h1, h2⟩
    · obtain ⟨x, l1, h3, h4⟩ := andThen_ok h2
      have h5 := ((prog f).binary h3).1
      have h6 := ih h4
      have h7 := tk_le l
      simp only [List.length_append, List.length_cons, List.length_nil] at h6
      omega
    · injection h2 with h2 h3
      subst h2 h3
      exact Nat.le_refl _
theorem msg_kids {f d : Nat} {l : List Tok} {n : Node} {l' : List Tok} (h : msg f d l = .ok n l') : n.kids.length ≤ l.length + 1 := by
  cases f with
  | zero => simp [msg] at h
  | succ f =>
    simp only [msg] at h
    rcases cond_or h with ⟨h1, h2⟩ | ⟨_, h⟩
    · injection h2 with h2 _
      subst h2
      simp [Node.kids]
    rcases cond_or h with ⟨h1, h2⟩ | ⟨_, h⟩
    · obtain ⟨x, l1, h3, h4⟩ := andThen_ok h2
      injection h4 with h4 _
      subst h4
      simp [Node.kids]
    rcases cond_or h with ⟨h1, h2⟩ | ⟨_, h⟩
    · have := msgL_kids h2
      simp at this
      omega
    · simp [syn] at h

structure NOut (f : Nat) : Prop where
  expr : ∀ {d l}, 20 * l.length + 13 ≤ f → expr f d l ≠ .out
  casc : ∀ {d l}, 20 * l.length + 12 ≤ f → casc f d l ≠ .out
  cascL : ∀ {d p ks l}, 20 * l.length + 4 ≤ f → cascL f d p ks l ≠ .out
  msg : ∀ {d l}, 20 * l.length + 5 ≤ f → msg f d l ≠ .out
  msgL : ∀ {d p t ks l}, 20 * l.length + 4 ≤ f → msgL f d p t ks l ≠ .out
  chainL : ∀ {d k o n p l}, 20 * l.length + 6 ≤ f → chainL f d k o n p l ≠ .out
  keyed : ∀ {d l}, 20 * l.length + 11 ≤ f → keyed f d l ≠ .out
  binary : ∀ {d l}, 20 * l.length + 10 ≤ f → binary f d l ≠ .out
  unary : ∀ {d l}, 20 * l.length + 9 ≤ f → unary f d l ≠ .out
  prim : ∀ {d l}, 20 * l.length + 8 ≤ f → prim f d l ≠ .out
  lst : ∀ {d l}, 20 * l.length + 6 ≤ f → (tk l).length < l.length → lst f d l ≠ .out
  lstL : ∀ {d p ks l}, 20 * l.length + 8 ≤ f → lstL f d p ks l ≠ .out
  elem : ∀ {d l}, 20 * l.length + 7 ≤ f → elem f d l ≠ .out
  blk : ∀ {d l}, 20 * l.length + 6 ≤ f → (tk l).length < l.length → blk f d l ≠ .out
  blkN : ∀ {d p ns l}, 20 * l.length + 19 ≤ f → blkN f d p ns l ≠ .out
  body : ∀ {d k n l}, 20 * l.length + 18 ≤ f → body f d k n l ≠ .out
  bodyN : ∀ {d k n l}, 20 * l.length + 17 ≤ f → bodyN f d k n l ≠ .out
  bodyL : ∀ {d k n l}, 20 * l.length + 16 ≤ f → bodyL f d k n l ≠ .out
  stmt : ∀ {d l}, 20 * l.length + 15 ≤ f → stmt f d l ≠ .out

theorem nout : ∀ f, NOut f := by
  intro f
  induction f with
  | zero => constructor <;> intros <;> omega
  | succ f ih =>
    have pr := prog f
    constructor
    · intro d l h
      simp only [expr]
      refine cond_out (fun h1 => within_out (andThen_out (ih.expr ?_) fun e l2 h2 => by simp)) fun _ => ih.casc (by omega)
      rw [Bool.and_eq_true] at h1
      have h7 := tk_lt h1.1 (by decide)
      have h8 := tk_le (tk l)
      omega
    · intro d l h
      simp only [casc]
      refine andThen_out (ih.keyed (by omega)) fun x l1 h1 => cond_out (fun _ => cond_out (fun _ => ih.cascL ?_) fun _ => by simp [syn]) fun _ => by simp
      have := (pr.keyed h1).1
      omega
    · intro d p ks l h
      simp only [cascL]
      refine cond_out (fun h1 => ?_) fun _ => by simp
      have h7 := tk_lt h1 (by decide)
      refine andThen_out (ih.msg (by omega)) fun m l1 h2 => ih.cascL ?_
      have := pr.msg h2
      omega
    · intro d l h
      simp only [msg]
      refine cond_out (fun h1 => by simp) fun _ => cond_out (fun h1 => ?_) fun _ => cond_out (fun h1 => ih.msgL (by omega)) fun _ => by simp [syn]
      have h7 := tk_lt h1 (by decide)
      exact andThen_out (ih.unary (by omega)) fun x l1 _ => by simp
    · intro d p t ks l h
      simp only [msgL]
      refine cond_out (fun h1 => ?_) fun _ => by simp
      have h7 := tk_lt h1 (by decide)
      refine andThen_out (ih.binary (by omega)) fun m l1 h2 => ih.msgL ?_
      have := (pr.binary h2).1
      omega
    · intro d k o n p l h
      simp only [chainL]
      refine cond_out (fun h1 => ?_) fun _ => by simp
      refine andThen_out (ih.msg (by omega)) fun m l1 h2 => cond_out (fun _ => by simp) fun _ => ih.chainL ?_
      have := pr.msg h2
      omega
    · intro d l h
      simp only [keyed]
      refine andThen_out (ih.binary (by omega)) fun x l1 h1 => ih.chainL ?_
      have := (pr.binary h1).1
      omega
    · intro d l h
      simp only [binary]
      refine andThen_out (ih.unary (by omega)) fun x l1 h1 => ih.chainL ?_
      have := (pr.unary h1).1
      omega
    · intro d l h
      simp only [unary]
      refine andThen_out (ih.prim (by omega)) fun x l1 h1 => ih.chainL ?_
      have := (pr.prim h1).1
      omega
    · intro d l h
      simp only [prim]
      have lf : ∀ k, ((leaf k l).andThen fun n l1 => Res.ok (n, true) l1) ≠ .out := fun k => by simp [leaf, Res.andThen]
      refine cond_out (fun _ => lf _) fun _ => cond_out (fun _ => lf _) fun _ => cond_out (fun _ => lf _) fun _ => cond_out (fun _ => lf _) fun _ => cond_out (fun h1 => ?_) fun _ => cond_out (fun h1 => ?_) fun _ => cond_out (fun h1 => ?_) fun _ => by simp [syn]
      · exact andThen_out (ih.lst (by omega) (tk_lt h1 (by decide))) fun x l1 _ => by simp
      · exact andThen_out (ih.blk (by omega) (tk_lt h1 (by decide))) fun x l1 _ => by simp
      · have h7 := tk_lt h1 (by decide)
        exact within_out (andThen_out (ih.expr (by omega)) fun e l2 _ => andThen_out need_out fun t l3 _ => by simp)
    · intro d l h ht
      simp only [lst]
      exact within_out (ih.lstL (by omega))
    · intro d p ks l h
      simp only [lstL]
      refine cond_out (fun h1 => by simp) fun _ => andThen_out (ih.elem (by omega)) fun e l1 h1 => ih.lstL ?_
      have := (pr.elem h1).1
      omega
    · intro d l h
      simp only [elem]
      refine cond_out (fun h1 => ih.lst (by omega) ?_) fun _ => cond_out (fun _ => by simp [leaf]) fun _ => cond_out (fun _ => by simp [leaf]) fun _ => cond_out (fun _ => by simp [leaf]) fun _ => cond_out (fun _ => by simp [leaf]) fun _ => by simp [syn]
      rw [Bool.or_eq_true] at h1
      rcases h1 with h1 | h1
      · exact tk_lt h1 (by decide)
      · exact tk_lt h1 (by decide)
    · intro d l h ht
      simp only [blk]
      exact within_out (ih.blkN (by omega))
    · intro d p ns l h
      simp only [blkN]
      refine cond_out (fun h1 => ?_) fun _ => cond_out (fun _ => ?_) fun _ => andThen_out (ih.body (by omega)) fun m l2 _ => by simp
      · have h7 := tk_lt h1 (by decide)
        refine andThen_out need_out fun t l1 h2 => ih.blkN ?_
        have h8 := tk_le (tk l)
        rw [← (need_ok h2).2.2] at h8
        omega
      · refine andThen_out need_out fun t l1 h2 => andThen_out (ih.body ?_) fun m l2 _ => by simp
        have h8 := tk_le l
        rw [← (need_ok h2).2.2] at h8
        omega
    · intro d k n l h
      simp only [body]
      refine cond_out (fun h1 => ih.bodyN ?_) fun _ => ih.bodyL (by omega)
      have h7 := tk_lt h1 (by decide)
      omega
    · intro d k n l h
      simp only [bodyN]
      refine cond_out (fun h1 => ih.bodyN ?_) fun _ => andThen_out need_out fun t l1 h2 => ih.bodyL ?_
      · have h7 := tk_lt h1 (by decide)
        omega
      · have h8 := tk_le l
        rw [← (need_ok h2).2.2] at h8
        omega
    · intro d k n l h
      simp only [bodyL]
      refine cond_out (fun h1 => by simp) fun _ => andThen_out (ih.stmt (by omega)) fun x l1 h2 => cond_out (fun h3 => ih.bodyL ?_) fun _ => cond_out (fun _ => by simp) fun _ => by simp [syn]
      have h5 := (pr.stmt h2).1
      have h7 := tk_le l1
      omega
    · intro d l h
      simp only [stmt]
      refine cond_out (fun h1 => ?_) fun _ => andThen_out (ih.expr (by omega)) fun x l1 _ => by simp
      have h7 := tk_lt h1 (by decide)
      exact andThen_out (ih.expr (by omega)) fun x l1 _ => by simp
end Go.Vx
namespace Go.Vx

/-- What holds of all parts holds of a tree. -/
theorem Node.ind {M : Node → Prop} (h : ∀ k t p n ns ks, (∀ x ∈ ks, M x) → M (.mk k t p n ns ks)) (n : Node) : M n :=
  Node.rec (motive_1 := M) (motive_2 := fun ks => ∀ x ∈ ks, M x) (fun k t p n ns ks ih => h k t p n ns ks ih) (fun x hx => by simp at hx)
    (fun k ks h1 h2 x hx => by
      rcases List.mem_cons.1 hx with e | hx
      · rw [e]; exact h1
      · exact h2 x hx) n

/-- How great names, words are. -/
def nsM : List (List UInt8) → Nat
  | [] => 0
  | t :: l => 1 + t.length + nsM l
def tm : List Tok → Nat
  | [] => 0
  | t :: l => 1 + t.text.length + tm l
mutual
def msr : Node → Nat
  | .mk _ t _ _ ns ks => 1 + t.length + nsM ns + msrs ks
def msrs : List Node → Nat
  | [] => 0
  | k :: ks => msr k + msrs ks
end
theorem nsM_app (a b : List (List UInt8)) : nsM (a ++ b) = nsM a + nsM b := by
  induction a with
  | nil => simp [nsM]
  | cons x a ih => simp only [List.cons_append, nsM, ih]; omega
theorem msrs_app (a b : List Node) : msrs (a ++ b) = msrs a + msrs b := by
  induction a with
  | nil => simp [msrs]
  | cons x a ih => simp only [List.cons_append, msrs, ih]; omega
theorem len_nsM (a : List (List UInt8)) : a.length ≤ nsM a := by
  induction a with
  | nil => exact Nat.le_refl _
  | cons x a ih => simp only [List.length_cons, nsM]; omega
theorem msr_pos (n : Node) : 1 ≤ msr n := by cases n; simp only [msr]; omega
theorem len_msrs (a : List Node) : a.length ≤ msrs a := by
  induction a with
  | nil => exact Nat.le_refl _
  | cons x a ih => have := msr_pos x; simp only [List.length_cons, msrs]; omega
theorem msr_mem {a : List Node} {x : Node} (h : x ∈ a) : msr x ≤ msrs a := by
  induction a with
  | nil => simp at h
  | cons y a ih =>
    simp only [msrs]
    rcases List.mem_cons.1 h with e | h
    · rw [e]; omega
    · have := ih h; omega

theorem tm_tk {l : List Tok} {k : Nat} (h : Nat.beq (kd l) k = true) (hk : k ≠ 0) : tm (tk l) + 1 + (hd l).text.length = tm l := by
  have h := Nat.eq_of_beq_eq_true h
  have hb : Nat.beq (kd l) 0 = false := by
    cases hb : Nat.beq (kd l) 0 with
    | false => rfl
    | true => have := Nat.eq_of_beq_eq_true hb; omega
  unfold tk
  rw [hb]
  cases l with
  | nil => simp [kd, hd] at h; omega
  | cons t l => simp only [cond_false, List.tail_cons, tm, hd, List.headD_cons]; omega
theorem tm_tk_le (l : List Tok) : tm (tk l) ≤ tm l := by
  unfold tk
  cases Nat.beq (kd l) 0
  · cases l with
    | nil => exact Nat.le_refl _
    | cons t l => simp only [cond_false, List.tail_cons, tm]; omega
  · exact Nat.le_refl _
theorem tm_le {l : List Tok} {b : Nat} (h : ∀ t ∈ l, t.text.length ≤ b) : tm l ≤ l.length * (b + 1) := by
  induction l with
  | nil => simp [tm]
  | cons t l ih =>
    have h1 := ih (fun t ht => h t (by simp [ht]))
    have h2 := h t (by simp)
    simp only [tm, List.length_cons, Nat.succ_mul]
    omega

/-! ### Shapes -/
inductive LitN : Node → Prop
  | leaf {k p n : Nat} {t : List UInt8} (h : k = 1 ∨ k = 2 ∨ k = 3 ∨ k = 13) : LitN (.mk k t p n [] [])
  | list {p n : Nat} {t : List UInt8} {ks : List Node} (h : ∀ k ∈ ks, LitN k) : LitN (.mk 4 t p n [] ks)
mutual
inductive OkE : Node → Prop
  | leaf {k p : Nat} {t : List UInt8} (h : k = 1 ∨ k = 2 ∨ k = 3) : OkE (.mk k t p 0 [] [])
  | list {p : Nat} {ks : List Node} (h : ∀ k ∈ ks, LitN k) : OkE (.mk 4 [] p 0 [] ks)
  | var {p : Nat} {t : List UInt8} : OkE (.mk 5 t p 0 [] [])
  | set {p : Nat} {t : List UInt8} {e : Node} (h : OkE e) : OkE (.mk 6 t p 0 [] [e])
  | send {p : Nat} {t : List UInt8} {r : Node} {ks : List Node} (h1 : OkE r) (h2 : ∀ k ∈ ks, OkE k) : OkE (.mk 7 t p 0 [] (r :: ks))
  | casc {p : Nat} {r : Node} {ms : List Node} (h1 : OkE r) (h2 : ms ≠ []) (h3 : ∀ m ∈ ms, OkM m) : OkE (.mk 8 [] p 0 [] (r :: ms))
  | blk {p n : Nat} {ns : List (List UInt8)} {ks : List Node} (h1 : n ≤ ns.length) (h2 : ∀ k ∈ ks, OkS k) : OkE (.mk 10 [] p n ns ks)
inductive OkM : Node → Prop
  | mk {p : Nat} {t : List UInt8} {ks : List Node} (h : ∀ k ∈ ks, OkE k) : OkM (.mk 9 t p 0 [] ks)
inductive OkS : Node → Prop
  | expr {n : Node} (h : OkE n) : OkS n
  | ret {p : Nat} {e : Node} (h : OkE e) : OkS (.mk 11 [] p 0 [] [e])
end
/-- A unit: of a source to be run, or of a method. -/
inductive OkU : Node → Prop
  | mk {p n : Nat} {t : List UInt8} {ns : List (List UInt8)} {ks : List Node} (h1 : n ≤ ns.length) (h2 : ∀ k ∈ ks, OkS k) : OkU (.mk 12 t p n ns ks)

theorem all_snoc {P : Node → Prop} {ks : List Node} {k : Node} (h : ∀ x ∈ ks, P x) (hk : P k) : ∀ x ∈ ks ++ [k], P x := fun x hx => by
  rcases List.mem_append.1 hx with h1 | h1
  · exact h x h1
  · rw [List.mem_singleton.1 h1]; exact hk

structure Shape (f : Nat) : Prop where
  expr : ∀ {d l n l'}, expr f d l = .ok n l' → OkE n ∧ msr n + tm l' ≤ tm l
  casc : ∀ {d l n l'}, casc f d l = .ok n l' → OkE n ∧ msr n + tm l' ≤ tm l
  cascL : ∀ {d p r ms l n l'}, cascL f d p (r :: ms) l = .ok n l' → OkE r → (∀ m ∈ ms, OkM m) → ms ≠ [] → OkE n ∧ msr n + tm l' ≤ 1 + msr r + msrs ms + tm l ∧ (Nat.beq (kd l) 15 = true → msr n + tm l' + 1 ≤ 1 + msr r + msrs ms + tm l)
  msg : ∀ {d l n l'}, msg f d l = .ok n l' → OkM n ∧ msr n + tm l' ≤ tm l
  msgL : ∀ {d p t ks l n l'}, msgL f d p t ks l = .ok n l' → (∀ k ∈ ks, OkE k) → OkM n ∧ msr n + tm l' ≤ 1 + t.length + msrs ks + tm l ∧ (Nat.beq (kd l) 2 = true → msr n + tm l' + 1 ≤ 1 + t.length + msrs ks + tm l)
  chainL : ∀ {d k o n p l x l'}, chainL f d k o n p l = .ok x l' → OkE n → OkE x.1 ∧ msr x.1 + tm l' ≤ msr n + tm l
  keyed : ∀ {d l x l'}, keyed f d l = .ok x l' → OkE x.1 ∧ msr x.1 + tm l' ≤ tm l
  binary : ∀ {d l x l'}, binary f d l = .ok x l' → OkE x.1 ∧ msr x.1 + tm l' ≤ tm l
  unary : ∀ {d l x l'}, unary f d l = .ok x l' → OkE x.1 ∧ msr x.1 + tm l' ≤ tm l
  prim : ∀ {d l x l'}, prim f d l = .ok x l' → OkE x.1 ∧ msr x.1 + tm l' ≤ tm l
  lst : ∀ {d l n l'}, lst f d l = .ok n l' → (Nat.beq (kd l) 17 = true ∨ Nat.beq (kd l) 8 = true) → OkE n ∧ LitN n ∧ msr n + tm l' ≤ tm l
  lstL : ∀ {d p ks l n l'}, lstL f d p ks l = .ok n l' → (∀ k ∈ ks, LitN k) → OkE n ∧ LitN n ∧ msr n + tm l' ≤ 1 + msrs ks + tm l
  elem : ∀ {d l n l'}, elem f d l = .ok n l' → LitN n ∧ msr n + tm l' ≤ tm l
  blk : ∀ {d l n l'}, blk f d l = .ok n l' → Nat.beq (kd l) 10 = true → OkE n ∧ msr n + tm l' ≤ tm l
  blkN : ∀ {d p ns l n l'}, blkN f d p ns l = .ok n l' → OkE n ∧ msr n + tm l' ≤ 1 + nsM ns + tm l
  body : ∀ {d k k0 t p n ns ks l n' l'}, body f d k (.mk k0 t p n ns ks) l = .ok n' l' → (∀ k ∈ ks, OkS k) → ∃ ns' ks', n' = .mk k0 t p n (ns ++ ns') ks' ∧ (∀ k ∈ ks', OkS k) ∧ msr n' + tm l' ≤ msr (.mk k0 t p n ns ks) + tm l
  bodyN : ∀ {d k k0 t p n ns ks l n' l'}, bodyN f d k (.mk k0 t p n ns ks) l = .ok n' l' → (∀ k ∈ ks, OkS k) → ∃ ns' ks', n' = .mk k0 t p n (ns ++ ns') ks' ∧ (∀ k ∈ ks', OkS k) ∧ msr n' + tm l' ≤ msr (.mk k0 t p n ns ks) + tm l
  bodyL : ∀ {d k k0 t p n ns ks l n' l'}, bodyL f d k (.mk k0 t p n ns ks) l = .ok n' l' → (∀ k ∈ ks, OkS k) → ∃ ns' ks', n' = .mk k0 t p n (ns ++ ns') ks' ∧ (∀ k ∈ ks', OkS k) ∧ msr n' + tm l' ≤ msr (.mk k0 t p n ns ks) + tm l
  stmt : ∀ {d l x l'}, stmt f d l = .ok x l' → OkS x.1 ∧ msr x.1 + tm l' ≤ tm l

theorem leaf_shape {k j : Nat} {l : List Tok} {n : Node} {l' : List Tok} (h : leaf k l = .ok n l') (hj : Nat.beq (kd l) j = true) (h0 : j ≠ 0) : n = .mk k (hd l).text (hd l).pos 0 [] [] ∧ msr n + tm l' ≤ tm l := by
  unfold leaf at h
  injection h with h1 h2
  subst h1 h2
  have := tm_tk hj h0
  exact ⟨rfl, by simp only [msr, nsM, msrs]; omega⟩

theorem msr_send {n m : Node} (hn : OkE n) (hm : OkM m) : OkE (sendN n m) ∧ msr (sendN n m) ≤ msr n + msr m := by
  cases hm with
  | mk h => exact ⟨.send hn h, by simp only [sendN, msr, nsM, msrs, Node.text, Node.pos, Node.kids]; omega⟩

theorem shape : ∀ f, Shape f := by
  intro f
  induction f with
  | zero => constructor <;> intros <;> simp_all [expr, casc, cascL, msg, msgL, chainL, keyed, binary, unary, prim, lst, lstL, elem, blk, blkN, body, bodyN, bodyL, stmt]
  | succ f ih =>
    constructor
    · intro d l n l' h
      simp only [expr] at h
      rcases cond_or h with ⟨h1, h2⟩ | ⟨_, h2⟩
      · rw [Bool.and_eq_true] at h1
        obtain ⟨_, h3⟩ := within_ok h2
        obtain ⟨e, l2, h4, h5⟩ := andThen_ok h3
        injection h5 with h5 h6
        subst h5 h6
        have h7 := ih.expr h4
        have h8 := tm_tk h1.1 (by decide)
        have h9 := tm_tk_le (tk l)
        exact ⟨.set h7.1, by simp only [msr, nsM, msrs]; omega⟩
      · exact ih.casc h2
    · intro d l n l' h
      simp only [casc] at h
      obtain ⟨x, l1, h1, h2⟩ := andThen_ok h
      have h3 := ih.keyed h1
      rcases cond_or h2 with ⟨hb, h4⟩ | ⟨_, h4⟩
      · rcases cond_or h4 with ⟨hc, h5⟩ | ⟨_, h5⟩
        · rw [Bool.and_eq_true] at hc
          obtain ⟨⟨k, t, p, n0, ns, ks⟩, pl⟩ := x
          have hk : k = 7 := Nat.eq_of_beq_eq_true hc.1
          subst hk
          obtain ⟨h6, h7⟩ := h3
          cases h6 with
          | leaf h => omega
          | @send _ _ r ks h8 h9 =>
            have h10 := ih.cascL h5 h8 (fun m hm => by
              rw [List.mem_singleton.1 hm]
              exact .mk h9) (by simp)
            refine ⟨h10.1, ?_⟩
            have h11 := h10.2.2 hb
            simp only [msr, nsM, msrs, Node.text, Node.pos, Node.kids, List.headD_cons, List.tail_cons] at h11 h7
            omega
        · simp [syn] at h5
      · injection h4 with h4 h5
        subst h4 h5
        exact h3
    · intro d p r ms l n l' h hr hm hne
      simp only [cascL] at h
      rcases cond_or h with ⟨h1, h2⟩ | ⟨h1, h2⟩
      · obtain ⟨m, l1, h3, h4⟩ := andThen_ok h2
        have h5 := ih.msg h3
        have h6 := ih.cascL (ms := ms ++ [m]) h4 hr (all_snoc hm h5.1) (by simp)
        have h7 := tm_tk h1 (by decide)
        rw [msrs_app] at h6
        simp only [msrs] at h6
        exact ⟨h6.1, by omega, fun _ => by omega⟩
      · injection h2 with h2 h3
        subst h2 h3
        refine ⟨.casc hr hne hm, ?_, fun h => ?_⟩
        · simp only [msr, nsM, msrs, List.length_nil]; omega
        · rw [h] at h1; simp at h1
    · intro d l n l' h
      simp only [msg] at h
      rcases cond_or h with ⟨h1, h2⟩ | ⟨_, h2⟩
      · injection h2 with h2 h3
        subst h2 h3
        have := tm_tk h1 (by decide)
        exact ⟨.mk (by simp), by simp only [msr, nsM, msrs]; omega⟩
      · rcases cond_or h2 with ⟨h1, h2⟩ | ⟨_, h2⟩
        · obtain ⟨x, l1, h3, h4⟩ := andThen_ok h2
          injection h4 with h4 h5
          subst h4 h5
          have h6 := ih.unary h3
          have h7 := tm_tk h1 (by decide)
          exact ⟨.mk (by intro k hk; rw [List.mem_singleton.1 hk]; exact h6.1), by simp only [msr, nsM, msrs]; omega⟩
        · rcases cond_or h2 with ⟨h1, h2⟩ | ⟨_, h2⟩
          · have := ih.msgL h2 (by simp)
            have h3 := this.2.2 h1
            simp only [msrs, List.length_nil] at h3
            exact ⟨this.1, by omega⟩
          · simp [syn] at h2
    · intro d p t ks l n l' h hks
      simp only [msgL] at h
      rcases cond_or h with ⟨h1, h2⟩ | ⟨h1, h2⟩
      · obtain ⟨x, l1, h3, h4⟩ := andThen_ok h2
        have h5 := ih.binary h3
        have h6 := ih.msgL h4 (all_snoc hks h5.1)
        have h7 := tm_tk h1 (by decide)
        rw [msrs_app, List.length_append] at h6
        simp only [msrs] at h6
        exact ⟨h6.1, by omega, fun _ => by omega⟩
      · injection h2 with h2 h3
        subst h2 h3
        exact ⟨.mk hks, by simp only [msr, nsM]; omega, fun h => by rw [h] at h1; simp at h1⟩
    · intro d k o n p l x l' h hn
      simp only [chainL] at h
      rcases cond_or h with ⟨h1, h2⟩ | ⟨h1, h2⟩
      · obtain ⟨m, l1, h3, h4⟩ := andThen_ok h2
        have h5 := ih.msg h3
        have h8 := msr_send hn h5.1
        rcases cond_or h4 with ⟨_, h6⟩ | ⟨_, h6⟩
        · injection h6 with h6 h7
          subst h6 h7
          exact ⟨h8.1, by simp only []; omega⟩
        · have := ih.chainL h6 h8.1
          exact ⟨this.1, by omega⟩
      · injection h2 with h2 h3
        subst h2 h3
        exact ⟨hn, Nat.le_refl _⟩
    · intro d l x l' h
      simp only [keyed] at h
      obtain ⟨y, l1, h1, h2⟩ := andThen_ok h
      have h3 := ih.binary h1
      have h4 := ih.chainL h2 h3.1
      exact ⟨h4.1, by omega⟩
    · intro d l x l' h
      simp only [binary] at h
      obtain ⟨y, l1, h1, h2⟩ := andThen_ok h
      have h3 := ih.unary h1
      have h4 := ih.chainL h2 h3.1
      exact ⟨h4.1, by omega⟩
    · intro d l x l' h
      simp only [unary] at h
      obtain ⟨y, l1, h1, h2⟩ := andThen_ok h
      have h3 := ih.prim h1
      have h4 := ih.chainL h2 h3.1
      exact ⟨h4.1, by omega⟩
    · intro d l x l' h
      simp only [prim] at h
      have lf : ∀ k j, ((leaf k l).andThen fun n l1 => Res.ok (n, true) l1) = .ok x l' → Nat.beq (kd l) j = true → j ≠ 0 → (k = 5 ∨ k = 1 ∨ k = 2 ∨ k = 3) → OkE x.1 ∧ msr x.1 + tm l' ≤ tm l := by
        intro k j h hj h0 hk
        obtain ⟨n, l1, h1, h2⟩ := andThen_ok h
        injection h2 with h2 h3
        subst h2 h3
        obtain ⟨h4, h5⟩ := leaf_shape h1 hj h0
        refine ⟨?_, h5⟩
        rw [h4]
        rcases hk with rfl | hk
        · exact .var
        · exact .leaf hk
      rcases cond_or h with ⟨h1, h2⟩ | ⟨_, h⟩
      · exact lf _ _ h2 h1 (by decide) (by decide)
      rcases cond_or h with ⟨h1, h2⟩ | ⟨_, h⟩
      · exact lf _ _ h2 h1 (by decide) (by decide)
      rcases cond_or h with ⟨h1, h2⟩ | ⟨_, h⟩
      · exact lf _ _ h2 h1 (by decide) (by decide)
      rcases cond_or h with ⟨h1, h2⟩ | ⟨_, h⟩
      · exact lf _ _ h2 h1 (by decide) (by decide)
      rcases cond_or h with ⟨h1, h2⟩ | ⟨_, h⟩
      · obtain ⟨n, l1, h3, h4⟩ := andThen_ok h2
        injection h4 with h4 h5
        subst h4 h5
        have := ih.lst h3 (.inl h1)
        exact ⟨this.1, this.2.2⟩
      rcases cond_or h with ⟨h1, h2⟩ | ⟨_, h⟩
      · obtain ⟨n, l1, h3, h4⟩ := andThen_ok h2
        injection h4 with h4 h5
        subst h4 h5
        exact ih.blk h3 h1
      rcases cond_or h with ⟨h1, h2⟩ | ⟨_, h⟩
      · obtain ⟨_, h3⟩ := within_ok h2
        obtain ⟨e, l2, h4, h5⟩ := andThen_ok h3
        obtain ⟨t, l3, h6, h7⟩ := andThen_ok h5
        injection h7 with h7 h8
        subst h7 h8
        have h9 := ih.expr h4
        have h10 := need_ok h6
        have h11 := tm_tk_le l
        have h12 := tm_tk_le l2
        rw [← h10.2.2] at h12
        exact ⟨h9.1, by simp only []; omega⟩
      · simp [syn] at h
    · intro d l n l' h hk
      simp only [lst] at h
      obtain ⟨_, h3⟩ := within_ok h
      have h4 := ih.lstL h3 (by simp)
      have h11 : tm (tk l) + 1 ≤ tm l := by
        rcases hk with hk | hk
        · have := tm_tk hk (by decide); omega
        · have := tm_tk hk (by decide); omega
      simp only [msrs] at h4
      exact ⟨h4.1, h4.2.1, by omega⟩
    · intro d p ks l n l' h hks
      simp only [lstL] at h
      rcases cond_or h with ⟨h1, h2⟩ | ⟨h1, h2⟩
      · injection h2 with h2 h3
        subst h2 h3
        have := tm_tk_le l
        exact ⟨.list hks, .list hks, by simp only [msr, nsM, List.length_nil]; omega⟩
      · obtain ⟨e, l1, h3, h4⟩ := andThen_ok h2
        have h5 := ih.elem h3
        have h6 := ih.lstL h4 (all_snoc hks h5.1)
        rw [msrs_app] at h6
        simp only [msrs] at h6
        exact ⟨h6.1, h6.2.1, by omega⟩
    · intro d l n l' h
      simp only [elem] at h
      have lf : ∀ k j, leaf k l = .ok n l' → Nat.beq (kd l) j = true → j ≠ 0 → (k = 1 ∨ k = 2 ∨ k = 3 ∨ k = 13) → LitN n ∧ msr n + tm l' ≤ tm l := by
        intro k j h hj h0 hk
        obtain ⟨h4, h5⟩ := leaf_shape h hj h0
        refine ⟨?_, h5⟩
        rw [h4]
        exact .leaf hk
      rcases cond_or h with ⟨h1, h2⟩ | ⟨_, h⟩
      · rw [Bool.or_eq_true] at h1
        exact (ih.lst h2 h1).2
      rcases cond_or h with ⟨h1, h2⟩ | ⟨_, h⟩
      · exact lf _ _ h2 h1 (by decide) (by decide)
      rcases cond_or h with ⟨h1, h2⟩ | ⟨_, h⟩
      · exact lf _ _ h2 h1 (by decide) (by decide)
      rcases cond_or h with ⟨h1, h2⟩ | ⟨_, h⟩
      · refine lf _ _ h2 h1 (by decide) ?_
        cases (hd l).text == trueT || ((hd l).text == falseT || (hd l).text == nilT) <;> decide
      rcases cond_or h with ⟨h1, h2⟩ | ⟨_, h⟩
      · rw [Bool.or_eq_true, Bool.or_eq_true] at h1
        rcases h1 with h1 | h1 | h1
        · exact lf _ _ h2 h1 (by decide) (by decide)
        · exact lf _ _ h2 h1 (by decide) (by decide)
        · exact lf _ _ h2 h1 (by decide) (by decide)
      · simp [syn] at h
    · intro d l n l' h hk
      simp only [blk] at h
      obtain ⟨_, h3⟩ := within_ok h
      have h4 := ih.blkN h3
      have h11 := tm_tk hk (by decide)
      simp only [nsM] at h4
      exact ⟨h4.1, by omega⟩
    · intro d p ns l n l' h
      simp only [blkN] at h
      have done : ∀ {l1 n l2 l'}, body f d 11 (.mk 10 [] p ns.length ns []) l1 = .ok n l2 → l' = tk l2 → tm l1 ≤ tm l → OkE n ∧ msr n + tm l' ≤ 1 + nsM ns + tm l := by
        intro l1 n l2 l' h he hl
        obtain ⟨ns', ks', h1, h2, h3⟩ := ih.body h (by simp)
        have h4 := tm_tk_le l2
        rw [← he] at h4
        simp only [msr, msrs, List.length_nil] at h3
        refine ⟨?_, by omega⟩
        rw [h1]
        exact .blk (by simp) h2
      rcases cond_or h with ⟨h1, h2⟩ | ⟨h1, h⟩
      · obtain ⟨t, l1, h3, h4⟩ := andThen_ok h2
        have h5 := need_ok h3
        have h6 := ih.blkN h4
        have h7 := tm_tk_le l
        have h8 := tm_tk h5.1 (by decide)
        rw [← h5.2.2, ← h5.2.1] at h8
        rw [nsM_app] at h6
        simp only [nsM] at h6
        exact ⟨h6.1, by omega⟩
      rcases cond_or h with ⟨h1, h2⟩ | ⟨h1, h⟩
      · obtain ⟨t, l1, h3, h4⟩ := andThen_ok h2
        obtain ⟨m, l2, h6, h7⟩ := andThen_ok h4
        injection h7 with h7 h8
        subst h7
        have h5 := need_ok h3
        have h10 := tm_tk_le l
        rw [← h5.2.2] at h10
        exact done h6 h8.symm h10
      · obtain ⟨m, l2, h6, h7⟩ := andThen_ok h
        injection h7 with h7 h8
        subst h7
        exact done h6 h8.symm (Nat.le_refl _)
    · intro d k k0 t p n ns ks l n' l' h hks
      simp only [body] at h
      rcases cond_or h with ⟨h1, h2⟩ | ⟨h1, h⟩
      · obtain ⟨ns', ks', h3, h4, h5⟩ := ih.bodyN h2 hks
        have h10 := tm_tk_le l
        exact ⟨ns', ks', h3, h4, by omega⟩
      · exact ih.bodyL h hks
    · intro d k k0 t p n ns ks l n' l' h hks
      simp only [bodyN] at h
      rcases cond_or h with ⟨h1, h2⟩ | ⟨h1, h⟩
      · obtain ⟨ns', ks', h3, h4, h5⟩ := ih.bodyN (ns := ns ++ [(hd l).text]) h2 hks
        have h10 := tm_tk h1 (by decide)
        refine ⟨[(hd l).text] ++ ns', ks', by rw [h3, List.append_assoc]; rfl, h4, ?_⟩
        simp only [msr, nsM_app, nsM, Node.text, Node.kids] at h5 ⊢
        omega
      · obtain ⟨t, l1, h3, h4⟩ := andThen_ok h
        have h5 := need_ok h3
        obtain ⟨ns', ks', h6, h7, h8⟩ := ih.bodyL h4 hks
        have h10 := tm_tk_le l
        rw [← h5.2.2] at h10
        exact ⟨ns', ks', h6, h7, by omega⟩
    · intro d k k0 t p n ns ks l n' l' h hks
      simp only [bodyL] at h
      have add : ∀ x : Node, addKid (.mk k0 t p n ns ks) x = .mk k0 t p n ns (ks ++ [x]) := fun _ => rfl
      rcases cond_or h with ⟨h1, h2⟩ | ⟨h1, h2⟩
      · injection h2 with h2 h3
        subst h2 h3
        exact ⟨[], ks, by rw [List.append_nil], hks, Nat.le_refl _⟩
      · obtain ⟨x, l1, h3, h4⟩ := andThen_ok h2
        have h5 := ih.stmt h3
        rw [add] at h4
        rcases cond_or h4 with ⟨h6, h7⟩ | ⟨_, h7⟩
        · obtain ⟨ns', ks', h8, h9, h10⟩ := ih.bodyL h7 (all_snoc hks h5.1)
          have h11 := tm_tk_le l1
          refine ⟨ns', ks', h8, h9, ?_⟩
          simp only [msr, msrs_app, msrs] at h10 ⊢
          omega
        · have h10 : tm (bif Nat.beq (kd l1) 14 then tk l1 else l1) ≤ tm l1 := by
            cases Nat.beq (kd l1) 14
            · exact Nat.le_refl _
            · exact tm_tk_le l1
          rcases cond_or h7 with ⟨h8, h9⟩ | ⟨_, h9⟩
          · injection h9 with h9 h11
            subst h9 h11
            refine ⟨[], ks ++ [x.1], by rw [List.append_nil], all_snoc hks h5.1, ?_⟩
            simp only [msr, msrs_app, msrs]
            omega
          · simp [syn] at h9
    · intro d l x l' h
      simp only [stmt] at h
      rcases cond_or h with ⟨h1, h2⟩ | ⟨h1, h⟩
      · obtain ⟨e, l1, h3, h4⟩ := andThen_ok h2
        injection h4 with h4 h5
        subst h4 h5
        have h6 := ih.expr h3
        have h10 := tm_tk h1 (by decide)
        exact ⟨.ret h6.1, by simp only [msr, nsM, msrs, List.length_nil]; omega⟩
      · obtain ⟨e, l1, h3, h4⟩ := andThen_ok h
        injection h4 with h4 h5
        subst h4 h5
        have h6 := ih.expr h3
        exact ⟨.expr h6.1, h6.2⟩
end Go.Vx
namespace Go.Vx
open Go

/-! ### Values -/
/-- A string's value by its bytes. -/
abbrev str (l : List UInt8) : Value := .string ⟨l.toArray⟩
abbrev ptr (b o : Nat) : Value := .pointer (some ⟨b, o, none⟩)
abbrev byt (c : UInt8) : Value := .int .u8 c.toNat
abbrev i64 (n : Int) : Value := .int .i64 n

def one : Value → Bool
  | .agg _ | .tuple _ => false
  | _ => true

/-! ### The table of types -/
inductive TyK where
  | int (k : IntKind)
  | bool
  | str
  | ptr (e : TypeId)
  | slice (e : TypeId)
  | struct (fs : List (Nat × TypeId))
  | array (n : Nat) (e : TypeId)
  | map (k e : TypeId)
  | func
  | iface
  | other

structure TI where
  kind : TyK
  size : Nat
  bytes : Nat
  zero : Value

def TyK.agg : TyK → Bool
  | .struct _ | .array _ _ => true
  | _ => false

def TyK.fits : TyK → TypeDesc → Prop
  | .int k, d => d = .int k
  | .bool, d => d = .bool
  | .str, d => d = .string
  | .ptr e, d => d = .pointer e
  | .slice e, d => d = .slice e
  | .struct fs, d => ∃ fields, d = .struct fields ∧ fields.toList.map (fun f => (f.offset, f.type)) = fs
  | .array n e, d => d = .array n e
  | .map k e, d => d = .map k e
  | .func, d => ∃ a b c, d = .func a b c
  | .iface, d => ∃ ms, d = .interface ms
  | .other, d => (match d with | .struct _ | .array _ _ => False | _ => True)

/-- An entry of the table is what the program says. -/
def TI.ok (P : Program) (t : TypeId) (i : TI) : Prop :=
  (∃ x, P.info? t = some x ∧ x.size = i.size ∧ x.bytes = i.bytes ∧ x.zero = some i.zero) ∧ ∃ d, P.underlying t = some d ∧ i.kind.fits d

abbrev Tab := List (TypeId × TI)

def Tab.get : Tab → TypeId → Option TI
  | [], _ => none
  | (k, v) :: e, t => match Nat.beq k t with | true => some v | false => Tab.get e t

def Tab.ok (P : Program) (T : Tab) : Prop := ∀ p ∈ T, p.2.ok P p.1

theorem Tab.ok.get_ok {P : Program} {T : Tab} (h : Tab.ok P T) {t : TypeId} {i : TI} (hg : T.get t = some i) : i.ok P t := by
  induction T with
  | nil => simp [Tab.get] at hg
  | cons p T ih =>
    obtain ⟨k, v⟩ := p
    simp only [Tab.get] at hg
    split at hg
    · rename_i hb
      have : k = t := Nat.eq_of_beq_eq_true hb
      subst this
      injection hg with hg
      subst hg
      exact h (k, v) (by simp)
    · exact ih (fun p hp => h p (by simp [hp])) hg

/-! ### A run that yields a value -/
def RunV (P : Program) (s : Sem Value) (w : World) (K : Value → World → Prop) : Prop := ∃ v w', s.run P w = .ok v w' ∧ K v w'

section ty
variable {P : Program} {t : TypeId} {i : TI}
theorem TI.ok.info (h : i.ok P t) : ∃ x, P.info? t = some x ∧ x.size = i.size ∧ x.bytes = i.bytes ∧ x.zero = some i.zero := h.1
theorem TI.ok.typeInfo (h : i.ok P t) : ∃ x, (∀ w, (typeInfo t).run P w = .ok x w) ∧ x.size = i.size ∧ x.bytes = i.bytes ∧ x.zero = some i.zero := by
  obtain ⟨x, h1, h2⟩ := h.1
  refine ⟨x, fun w => ?_, h2⟩
  simp [Go.typeInfo, Go.program, h1, Sem.run]
theorem TI.ok.sizeOf (h : i.ok P t) (w : World) : (sizeOf t).run P w = .ok i.size w := by
  obtain ⟨x, h1, h2, _⟩ := h.typeInfo
  simp [Go.sizeOf, h1, h2]
theorem TI.ok.zero (h : i.ok P t) (w : World) : (zeroValue t).run P w = .ok i.zero w := by
  obtain ⟨x, h1, _, _, h2⟩ := h.typeInfo
  simp [Go.zeroValue, h1, h2]
theorem TI.ok.under (h : i.ok P t) : ∃ d, (∀ w, (underlying t).run P w = .ok d w) ∧ P.underlying t = some d ∧ i.kind.fits d := by
  obtain ⟨d, h1, h2⟩ := h.2
  exact ⟨d, fun w => run_underlying h1 w, h1, h2⟩
theorem TI.ok.isAgg (h : i.ok P t) (w : World) : (isAgg t).run P w = .ok i.kind.agg w := by
  obtain ⟨d, h1, _, h2⟩ := h.under
  obtain ⟨kind, _, _, _⟩ := i
  simp only [Go.isAgg, Sem.run_bind, h1, Result.andThen_ok]
  cases kind <;> simp only [TyK.fits] at h2 <;> simp only [TyK.agg]
  case struct fs => obtain ⟨f, rfl, _⟩ := h2; rfl
  case func => obtain ⟨a, b, c, rfl⟩ := h2; rfl
  case iface => obtain ⟨a, rfl⟩ := h2; rfl
  case other => cases d <;> first | rfl | exact h2.elim
  all_goals (subst h2; rfl)
end ty

/-! ### Cells -/
def cellsAt (w : World) (a : Addr) (vs : List Value) : Prop := ∀ j v, vs[j]? = some v → w.cell? (a.add j) = some v

theorem cellsAt_nil (w : World) (a : Addr) : cellsAt w a [] := fun j v h => by simp at h

theorem add_add (a : Addr) (i j : Nat) : (a.add i).add j = a.add (i + j) := by
  unfold Addr.add
  by_cases h1 : i = 0 <;> by_cases h2 : j = 0 <;> simp [h1, h2, Nat.add_assoc]

theorem add_plain (b o j : Nat) : (⟨b, o, none⟩ : Addr).add j = ⟨b, o + j, none⟩ := by
  unfold Addr.add; split <;> simp_all

theorem run_load {P : Program} {a : Addr} {w : World} {v : Value} (h : w.cell? a = some v) : (load a).run P w = .ok v w := by
  simp [load, Sem.run, h]

theorem run_loadCellsFrom {P : Program} {w : World} (a : Addr) : ∀ (vs : List Value) (i : Nat) (acc : Array Value), (∀ j v, vs[j]? = some v → w.cell? (a.add (i + j)) = some v) →
    (loadCellsFrom a i vs.length acc).run P w = .ok (acc ++ vs.toArray) w := by
  intro vs
  induction vs with
  | nil => intro i acc _; simp [loadCellsFrom]
  | cons v vs ih =>
    intro i acc h
    have h0 := h 0 v (by simp)
    have h1 := run_load (P := P) (by simpa using h0 : w.cell? (a.add i) = some v)
    simp only [List.length_cons, loadCellsFrom, Sem.run_bind, h1, Result.andThen_ok]
    rw [ih (i + 1) (acc.push v) (fun j u hu => by have := h (j + 1) u (by simpa using hu); rwa [Nat.add_assoc, Nat.add_comm 1 j])]
    simp

theorem run_loadCells {P : Program} {w : World} {a : Addr} {vs : List Value} (h : cellsAt w a vs) {n : Nat} (hn : vs.length = n) : (loadCells a n).run P w = .ok vs.toArray w := by
  subst hn
  have := run_loadCellsFrom (P := P) a vs 0 #[] (fun j v hv => by simpa using h j v hv)
  simpa [loadCells] using this

/-! ### The nodes: loads and stores -/
def ld (a : Value) (K : Value → World → Prop) (w : World) : Prop := ∃ ad v, a = .pointer (some ad) ∧ w.cell? ad = some v ∧ K v w
def ldn (n : Nat) (a : Value) (K : Value → World → Prop) (w : World) : Prop :=
  ∃ ad vs, a = .pointer (some ad) ∧ vs.length = n ∧ cellsAt w ad vs ∧ K (.agg vs.toArray) w

theorem so_ld {P : Program} {t : TypeId} {i : TI} (hi : i.ok P t) (hk : i.kind.agg = false) {a : Value} {K : Value → World → Prop} {w : World} (h : ld a K w) : RunV P (Instr.loadAt t a) w K := by
  obtain ⟨ad, v, rfl, hc, hK⟩ := h
  refine ⟨v, w, ?_, hK⟩
  have h1 := hi.isAgg w
  rw [hk] at h1
  simp only [Instr.loadAt, Instr.sureAddr, loadVar, Sem.run_bind, Sem.run_pure, Result.andThen_ok, h1, run_load hc, Bool.false_eq_true, if_false]

theorem so_ldn {P : Program} {t : TypeId} {i : TI} (hi : i.ok P t) (hk : i.kind.agg = true) {a : Value} {K : Value → World → Prop} {w : World} (h : ldn i.size a K w) : RunV P (Instr.loadAt t a) w K := by
  obtain ⟨ad, vs, rfl, hn, hc, hK⟩ := h
  refine ⟨_, w, ?_, hK⟩
  have h1 := hi.isAgg w
  rw [hk] at h1
  simp [Instr.loadAt, Instr.sureAddr, loadVar, h1, hi.sizeOf w, run_loadCells hc hn]

/-- A block whole. -/
def setBlk (w : World) (b : Nat) (o : Obj) : World := { w with heap := w.heap.setIfInBounds b o }

/-- Values written over some cells of a row. -/
def wr (c : Array Value) (o : Nat) : List Value → Array Value
  | [] => c
  | v :: vs => wr (c.setIfInBounds o v) (o + 1) vs

def allOne : List Value → Bool
  | [] => true
  | v :: vs => one v && allOne vs

def st (n : Nat) (a v : Value) (K : World → Prop) (w : World) : Prop :=
  ∃ b o c t fr, a = ptr b o ∧ w.heap[b]? = some (.cells c t fr) ∧ (fr.1 = fr.2 ∨ o + n ≤ fr.1) ∧ v.cells.size = n ∧ o + n ≤ c.size ∧ allOne v.cells.toList = true ∧
    K (setBlk w b (.cells (wr c o v.cells.toList) t fr))

theorem setBlk_get (w : World) (b : Nat) (o o' : Obj) (h : w.heap[b]? = some o') : (setBlk w b o).heap[b]? = some o := by
  have : b < w.heap.size := (Array.getElem?_eq_some_iff.1 h).1
  simp [setBlk, Array.getElem?_setIfInBounds, this]

theorem setBlk_other (w : World) (b b' : Nat) (o : Obj) (h : b ≠ b') : (setBlk w b o).heap[b']? = w.heap[b']? := by
  simp [setBlk, Array.getElem?_setIfInBounds_ne h]

theorem setBlk_size (w : World) (b : Nat) (o : Obj) : (setBlk w b o).heap.size = w.heap.size := by simp [setBlk]

theorem setBlk_setBlk (w : World) (b : Nat) (o o' : Obj) : setBlk (setBlk w b o) b o' = setBlk w b o' := by
  simp [setBlk]

theorem setCell_blk {w : World} {b o : Nat} {c : Array Value} {t : TypeId} {fr : Nat × Nat} (h : w.heap[b]? = some (.cells c t fr)) (v : Value) :
    w.setCell ⟨b, o, none⟩ v = setBlk w b (.cells (c.setIfInBounds o v) t fr) := by
  have hb : b < w.heap.size := (Array.getElem?_eq_some_iff.1 h).1
  have hv : w.heap[b] = .cells c t fr := (Array.getElem?_eq_some_iff.1 h).2
  unfold World.setCell setBlk
  congr 1
  apply Array.ext
  · simp
  · intro i h1 h2
    rw [Array.getElem_modify, Array.getElem_setIfInBounds (by simpa using h1)]
    by_cases e : b = i
    · subst e; simp [hv]
    · simp [e]

theorem run_storeCells {P : Program} {b : Nat} {t : TypeId} {fr : Nat × Nat} : ∀ (vs : List Value) (w : World) (o i : Nat) (c : Array Value),
    w.heap[b]? = some (.cells c t fr) → (fr.1 = fr.2 ∨ o + i + vs.length ≤ fr.1) → o + i + vs.length ≤ c.size → allOne vs = true →
    (storeCells ⟨b, o, none⟩ vs i).run P w = .ok () (setBlk w b (.cells (wr c (o + i) vs) t fr)) := by
  intro vs
  induction vs with
  | nil =>
    intro w o i c h _ _ _
    have hb : b < w.heap.size := (Array.getElem?_eq_some_iff.1 h).1
    have hv : w.heap[b] = .cells c t fr := (Array.getElem?_eq_some_iff.1 h).2
    have : setBlk w b (.cells (wr c (o + i) []) t fr) = w := by
      unfold setBlk wr
      congr 1
      apply Array.ext
      · simp
      · intro j h1 h2
        rw [Array.getElem_setIfInBounds (by simpa using h1)]
        by_cases e : b = j
        · subst e; simp [hv]
        · simp [e]
    rw [this]
    simp [storeCells]
  | cons v vs ih =>
    intro w o i c h hfr hs ho
    simp only [List.length_cons] at hfr hs
    simp only [allOne, Bool.and_eq_true] at ho
    have hcell : w.cell? ⟨b, o + i, none⟩ = some (c[o + i]'(by omega)) := by
      simp only [World.cell?, h]
      simp [Array.getElem?_eq_getElem (show o + i < c.size by omega)]
    have hfz : w.frozen? ⟨b, o + i, none⟩ = false := by
      obtain ⟨lo, hi⟩ := fr
      simp only [World.frozen?, h]
      simp only at hfr
      rcases hfr with hfr | hfr
      · subst hfr; simp only [Bool.and_eq_false_imp, decide_eq_true_eq, decide_eq_false_iff_not]; omega
      · simp only [Bool.and_eq_false_imp, decide_eq_true_eq, decide_eq_false_iff_not]; omega
    have hstore' : (store ((⟨b, o, none⟩ : Addr).add i) v).run P w = .ok () (setBlk w b (.cells (c.setIfInBounds (o + i) v) t fr)) := by
      rw [add_plain]
      cases v <;> first | exact (Bool.false_ne_true ho.1).elim | (simp only [store, Sem.run, hcell, hfz]; rw [setCell_blk h]; simp)
    simp only [storeCells, Sem.run_bind, hstore', Result.andThen_ok]
    rw [ih (setBlk w b (.cells (c.setIfInBounds (o + i) v) t fr)) o (i + 1) (c.setIfInBounds (o + i) v) (setBlk_get _ _ _ _ h) (by omega) (by simp; omega) ho.2]
    rw [setBlk_setBlk]
    rfl

theorem so_st {P : Program} {t : TypeId} {i : TI} (hi : i.ok P t) {a v : Value} {K : World → Prop} {w : World} (h : st i.size a v K w) :
    ∃ w', (Instr.storeAt t a v).run P w = .ok () w' ∧ K w' := by
  obtain ⟨b, o, c, t', fr, rfl, hb, hfr, hn, hs, ho, hK⟩ := h
  refine ⟨_, ?_, hK⟩
  have h1 := run_storeCells (P := P) v.cells.toList w o 0 c hb (by simpa [hn] using hfr) (by simpa [hn] using hs) ho
  simp only [Nat.add_zero] at h1
  simp only [Instr.storeAt, Instr.sureAddr, storeVar, Sem.run_bind, Sem.run_pure, Result.andThen_ok, hi.sizeOf w]
  rw [if_neg (by simp [hn])]
  exact h1
end Go.Vx
namespace Go.Vx
open Go

/-! ### Whole numbers -/
def bitsI (op : BinOp) (k : IntKind) (a b : Int) : Int :=
  let x := BitVec.ofInt k.bits a
  let y := BitVec.ofInt k.bits b
  match op with
  | .and => k.wrap (x &&& y).toNat
  | .or => k.wrap (x ||| y).toNat
  | .xor => k.wrap (x ^^^ y).toNat
  | .andNot => k.wrap (x &&& ~~~y).toNat
  | _ => 0

def opI (op : BinOp) (k : IntKind) (a b : Int) : Value :=
  match op with
  | .add => .int k (k.wrap (a + b))
  | .sub => .int k (k.wrap (a - b))
  | .mul => .int k (k.wrap (a * b))
  | .eql => .bool (decide (a = b))
  | .neq => .bool (!decide (a = b))
  | .lss => .bool (decide (a < b))
  | .leq => .bool (decide (a ≤ b))
  | .gtr => .bool (decide (b < a))
  | .geq => .bool (decide (b ≤ a))
  | .quo => .int k (k.wrap (a.tdiv b))
  | .rem => .int k (a.tmod b)
  | .shl => .int k (k.wrap (a * 2 ^ (min b.toNat k.bits)))
  | .shr => .int k (a.fdiv (2 ^ (min b.toNat k.bits)))
  | op => .int k (bitsI op k a b)

/-- Which operands may be. -/
def okI (op : BinOp) (b : Int) : Prop :=
  match op with
  | .quo | .rem => b ≠ 0
  | .shl | .shr => 0 ≤ b
  | _ => True

def shiftB : BinOp → Bool
  | .shl | .shr => true
  | _ => false

def bI (op : BinOp) (k : IntKind) (x y : Value) (K : Value → World → Prop) (w : World) : Prop :=
  ∃ a b, x = .int k a ∧ y = .int k b ∧ okI op b ∧ K (opI op k a b) w
/-- A shift: the count may be of another kind. -/
def bH (op : BinOp) (k : IntKind) (x y : Value) (K : Value → World → Prop) (w : World) : Prop :=
  ∃ a k' b, x = .int k a ∧ y = .int k' b ∧ okI op b ∧ K (opI op k a b) w

theorem beq_dec (a b : Int) : (a == b) = decide (a = b) := by by_cases h : a = b <;> simp [h]
theorem beq_decL (a b : List UInt8) : (a == b) = decide (a = b) := by by_cases h : a = b <;> simp [h]

theorem run_ite {α : Type} {P : Program} {c : Prop} [Decidable c] {x y : Sem α} {w : World} {r : Result α} (h1 : c → x.run P w = r) (h2 : ¬c → y.run P w = r) : (if c then x else y).run P w = r := by
  by_cases h : c
  · rw [if_pos h]; exact h1 h
  · rw [if_neg h]; exact h2 h

theorem eqGuard_plain {P : Program} (op : BinOp) (t : TypeId) (ox oy : Operand) (x y : Value) (w : World) (h : ∀ a b, ¬(x = .agg a ∧ y = .agg b)) (h2 : ¬(x = .nilIface ∧ y = .nilIface)) :
    (eqGuard op t ox oy x y).run P w = .ok () w := by
  unfold eqGuard
  refine run_ite (fun _ => rfl) (fun _ => ?_)
  cases x <;> cases y <;> first | rfl | exact (h _ _ (And.intro rfl rfl)).elim | exact (h2 (And.intro rfl rfl)).elim

theorem so_bI {P : Program} {op : BinOp} {t : TypeId} {k : IntKind} {x y : Value} {ox oy : Operand} {K : Value → World → Prop} {w : World} (h : bI op k x y K w) :
    RunV P (do eqGuard op t ox oy x y; binOp op t x y) w K := by
  obtain ⟨a, b, rfl, rfl, hok, hK⟩ := h
  refine ⟨_, w, ?_, hK⟩
  have hg := eqGuard_plain (P := P) op t ox oy (.int k a) (.int k b) w (by simp) (by simp)
  simp only [Sem.run_bind, hg, Result.andThen_ok]
  cases op <;> simp only [okI] at hok <;>
    simp [binOp, Op.intArith, Op.intDiv, Op.intBits, Op.intCmp, Op.shift, opI, bitsI, hok, bne, beq_dec] <;>
    (try (intro hneg; omega))

theorem so_bH {P : Program} {op : BinOp} {t : TypeId} {k : IntKind} {x y : Value} {ox oy : Operand} {K : Value → World → Prop} {w : World} (hs : shiftB op = true) (h : bH op k x y K w) :
    RunV P (do eqGuard op t ox oy x y; binOp op t x y) w K := by
  obtain ⟨a, k', b, rfl, rfl, hok, hK⟩ := h
  refine ⟨_, w, ?_, hK⟩
  have hg := eqGuard_plain (P := P) op t ox oy (.int k a) (.int k' b) w (by simp) (by simp)
  simp only [Sem.run_bind, hg, Result.andThen_ok]
  cases op <;> simp [shiftB] at hs <;> simp only [okI] at hok <;>
    simp [binOp, Op.shift, opI] <;>
    (try (intro hneg; omega))

/-! ### Strings and bools -/
def opS (op : BinOp) (a b : List UInt8) : Value :=
  match op with
  | .add => str (a ++ b)
  | .eql => .bool (decide (a = b))
  | .neq => .bool (!decide (a = b))
  | .lss => .bool (Op.bytesLess a b)
  | .leq => .bool (Op.bytesLess a b || decide (a = b))
  | .gtr => .bool (!(Op.bytesLess a b || decide (a = b)))
  | .geq => .bool (!Op.bytesLess a b)
  | _ => .nilFunc

def okS (op : BinOp) (a b : List UInt8) : Prop :=
  match op with
  | .add => a.length + b.length ≤ 9223372036854775807
  | .eql | .neq | .lss | .leq | .gtr | .geq => True
  | _ => False

def bS (op : BinOp) (x y : Value) (K : Value → World → Prop) (w : World) : Prop :=
  ∃ a b, x = str a ∧ y = str b ∧ okS op a b ∧ K (opS op a b) w

theorem toList_mk (l : List UInt8) : (ByteArray.mk l.toArray).toList = l := by
  have h : ∀ (n i : Nat) (r : List UInt8), l.length - i = n → ByteArray.toList.loop ⟨l.toArray⟩ i r = r.reverse ++ l.drop i := by
    intro n
    induction n with
    | zero =>
      intro i r hn
      unfold ByteArray.toList.loop
      rw [if_neg (by simp [ByteArray.size]; omega)]
      simp [List.drop_eq_nil_of_le (show l.length ≤ i by omega)]
    | succ n ih =>
      intro i r hn
      have hi : i < l.length := by omega
      unfold ByteArray.toList.loop
      rw [if_pos (by simp [ByteArray.size]; omega), ih (i + 1) _ (by omega), List.drop_eq_getElem_cons hi]
      simp [ByteArray.get!, hi]
  exact (h _ 0 [] rfl).trans (by simp)

theorem append_mk (a b : List UInt8) : (ByteArray.mk a.toArray) ++ (ByteArray.mk b.toArray) = ByteArray.mk (a ++ b).toArray := by
  apply ByteArray.ext
  simp

theorem size_mk (a : List UInt8) : (ByteArray.mk a.toArray).size = a.length := by simp [ByteArray.size]

theorem so_bS {P : Program} {op : BinOp} {t : TypeId} {x y : Value} {ox oy : Operand} {K : Value → World → Prop} {w : World} (h : bS op x y K w) :
    RunV P (do eqGuard op t ox oy x y; binOp op t x y) w K := by
  obtain ⟨a, b, rfl, rfl, hok, hK⟩ := h
  refine ⟨_, w, ?_, hK⟩
  have hg := eqGuard_plain (P := P) op t ox oy (str a) (str b) w (by simp) (by simp)
  simp only [Sem.run_bind, hg, Result.andThen_ok]
  cases op <;> simp only [okS] at hok <;> first | exact hok.elim | skip
  case add =>
    simp only [binOp, Op.stringOp, size_mk, append_mk]
    rw [if_neg (by rw [show IntKind.i64.max = 9223372036854775807 from rfl]; omega)]
    rfl
  all_goals (simp [binOp, Op.stringOp, opS, toList_mk, beq_decL])

/-- One step of the comparison. -/
theorem run_equal {P : Program} {t : TypeId} {d : TypeDesc} (hd : ∀ w, (underlying t).run P w = .ok d w) {x y : Value} {w : World} {r : Result Bool}
    (h : (Op.equalIn (9999 + 1) t x y).run P w = r) : (Op.equal t x y).run P w = r := h

def bB (op : BinOp) (x y : Value) (K : Value → World → Prop) (w : World) : Prop :=
  ∃ a b, x = .bool a ∧ y = .bool b ∧ ((op = .eql ∧ K (.bool (a == b)) w) ∨ (op = .neq ∧ K (.bool (a != b)) w))

theorem so_bB {P : Program} {op : BinOp} {t : TypeId} {i : TI} (hi : i.ok P t) (hk : i.kind = .bool) {x y : Value} {ox oy : Operand} {K : Value → World → Prop} {w : World} (h : bB op x y K w) :
    RunV P (do eqGuard op t ox oy x y; binOp op t x y) w K := by
  obtain ⟨a, b, rfl, rfl, h⟩ := h
  obtain ⟨d, hd, _, hf⟩ := hi.under
  rw [hk] at hf
  simp only [TyK.fits] at hf
  subst hf
  have hg := eqGuard_plain (P := P) op t ox oy (.bool a) (.bool b) w (by simp) (by simp)
  rcases h with ⟨rfl, hK⟩ | ⟨rfl, hK⟩
  all_goals
    have he : (Op.equal t (.bool a) (.bool b)).run P w = .ok (a == b) w := by
      refine run_equal hd ?_
      rw [Op.equalIn]
      simp only [Sem.run_bind, hd, Result.andThen_ok, Sem.run_pure]
    refine ⟨_, w, ?_, hK⟩
    simp [hg, binOp, he, bne]

/-- A comparison of a pointer, a slice, a map or a function with nil. -/
def isNil : Value → Option Bool
  | .pointer a => some a.isNone
  | .slice a _ _ => some a.isNone
  | .map r => some r.isNone
  | .nilFunc => some true
  | .func .. => some false
  | .nilIface => some true
  | .iface .. => some false
  | _ => none

def litNil : Value → Bool
  | .pointer none => true
  | .slice none _ _ => true
  | .map none => true
  | .nilFunc => true
  | _ => false

def sameNil : Value → Value → Bool
  | .pointer _, .pointer _ => true
  | .slice .., .slice .. => true
  | .map _, .map _ => true
  | .nilFunc, .nilFunc => true
  | .func .., .nilFunc => true
  | .nilFunc, .func .. => true
  | _, _ => false

def kindNil : TyK → Value → Bool
  | .ptr _, .pointer _ => true
  | .slice _, .slice .. => true
  | .map .., .map _ => true
  | .func, .nilFunc => true
  | .func, .func .. => true
  | _, _ => false

/-- x == y where y is nil. -/
def bN (op : BinOp) (k : TyK) (x y : Value) (K : Value → World → Prop) (w : World) : Prop :=
  kindNil k x = true ∧ kindNil k y = true ∧ litNil y = true ∧ ∃ t, isNil x = some t ∧ ((op = .eql ∧ K (.bool t) w) ∨ (op = .neq ∧ K (.bool (!t)) w))

theorem so_bN {P : Program} {op : BinOp} {t : TypeId} {i : TI} (hi : i.ok P t) {x y : Value} {ox oy : Operand} {K : Value → World → Prop} {w : World} (h : bN op i.kind x y K w) :
    RunV P (do eqGuard op t ox oy x y; binOp op t x y) w K := by
  obtain ⟨hx, hy, hl, tt, ht, h⟩ := h
  obtain ⟨d, hd, _, hf⟩ := hi.under
  obtain ⟨kind, _, _, _⟩ := i
  simp only at hx hy hf
  have heq : (Op.equal t x y).run P w = .ok tt w := by
    cases kind <;> cases x <;> simp [kindNil] at hx <;> cases y <;> simp [kindNil] at hy <;> simp only [TyK.fits] at hf
    case ptr.pointer.pointer e a b =>
      subst hf
      cases b <;> simp [litNil] at hl
      cases a <;> simp [isNil] at ht <;> subst ht <;> (refine run_equal hd ?_; rw [Op.equalIn]; simp only [Sem.run_bind, hd, Result.andThen_ok, Sem.run_pure]; try rfl)
    case slice.slice.slice e a n c b n' c' =>
      subst hf
      cases b <;> simp [litNil] at hl
      cases a <;> simp [isNil] at ht <;> subst ht <;> (refine run_equal hd ?_; rw [Op.equalIn]; simp only [Sem.run_bind, hd, Result.andThen_ok, Sem.run_pure]; try rfl)
    case map.map.map e e' a b =>
      subst hf
      cases b <;> simp [litNil] at hl
      cases a <;> simp [isNil] at ht <;> subst ht <;> (refine run_equal hd ?_; rw [Op.equalIn]; simp only [Sem.run_bind, hd, Result.andThen_ok, Sem.run_pure]; try rfl)
    all_goals
      obtain ⟨a, b, c, rfl⟩ := hf
      first
        | (simp [litNil] at hl; done)
        | (simp [isNil] at ht; subst ht; (refine run_equal hd ?_; rw [Op.equalIn]; simp only [Sem.run_bind, hd, Result.andThen_ok, Sem.run_pure]; try rfl))
  have hg := eqGuard_plain (P := P) op t ox oy x y w (by intro a b ⟨e, _⟩; subst e; simp [isNil] at ht) (by rintro ⟨rfl, rfl⟩; cases kind <;> simp [kindNil] at hx)
  have hb : op = .eql ∨ op = .neq := by rcases h with ⟨h, _⟩ | ⟨h, _⟩ <;> simp [h]
  rcases h with ⟨rfl, hK⟩ | ⟨rfl, hK⟩
  · refine ⟨_, w, ?_, hK⟩
    simp only [Sem.run_bind, hg, Result.andThen_ok]
    cases kind <;> cases x <;> simp [kindNil] at hx <;> cases y <;> simp [kindNil] at hy <;> simp [binOp, heq]
  · refine ⟨_, w, ?_, hK⟩
    simp only [Sem.run_bind, hg, Result.andThen_ok]
    cases kind <;> cases x <;> simp [kindNil] at hx <;> cases y <;> simp [kindNil] at hy <;> simp [binOp, heq]

/-! ### Conversions -/
/-- int to int -/
def cI (k : IntKind) (x : Value) (K : Value → World → Prop) (w : World) : Prop := ∃ k' a, x = .int k' a ∧ K (.int k (k.wrap a)) w
theorem so_cI {P : Program} {s d : TypeId} {i j : TI} {k' k : IntKind} (hi : i.ok P s) (hj : j.ok P d) (hk' : i.kind = .int k') (hk : j.kind = .int k) {x : Value} {K : Value → World → Prop} {w : World} (h : cI k x K w) : RunV P (convert s d x) w K := by
  obtain ⟨k'', a, rfl, hK⟩ := h
  obtain ⟨d1, h1, _, f1⟩ := hi.under
  obtain ⟨d2, h2, _, f2⟩ := hj.under
  rw [hk'] at f1; rw [hk] at f2
  simp only [TyK.fits] at f1 f2
  subst f1 f2
  exact ⟨_, w, by simp [convert, h1, h2, Conv.intToInt], hK⟩

/-- string to string -/
def cS (x : Value) (K : Value → World → Prop) (w : World) : Prop := ∃ l, x = str l ∧ K (str l) w
theorem so_cS {P : Program} {s d : TypeId} {i j : TI} (hi : i.ok P s) (hj : j.ok P d) (hk' : i.kind = .str) (hk : j.kind = .str) {x : Value} {K : Value → World → Prop} {w : World} (h : cS x K w) : RunV P (convert s d x) w K := by
  obtain ⟨l, rfl, hK⟩ := h
  obtain ⟨d1, h1, _, f1⟩ := hi.under
  obtain ⟨d2, h2, _, f2⟩ := hj.under
  rw [hk'] at f1; rw [hk] at f2
  simp only [TyK.fits] at f1 f2
  subst f1 f2
  exact ⟨_, w, by simp [convert, h1, h2], hK⟩

/-- string to bytes: a new row, with a mark behind its end -/
def cSB (e : TypeId) (x : Value) (K : Value → World → Prop) (w : World) : Prop :=
  ∃ l, x = str l ∧ ∀ c w', l.length ≤ c → w'.os = w.os → w'.tape = w.tape → w'.output = w.output → w'.heap = w.heap.push (.cells ((l.map byt).toArray ++ Array.replicate (c - l.length) (.int .u8 0)) e (c, c + 1)) →
    K (.slice (some ⟨w.heap.size, 0, none⟩) l.length c) w'

theorem so_cSB {P : Program} {s d e : TypeId} {i j m : TI} (hi : i.ok P s) (hj : j.ok P d) (hm : m.ok P e) (hk' : i.kind = .str) (hk : j.kind = .slice e) (hke : m.kind = .int .u8) {x : Value} {K : Value → World → Prop} {w : World} (h : cSB e x K w) : RunV P (convert s d x) w K := by
  obtain ⟨l, rfl, hK⟩ := h
  obtain ⟨d1, _, h1, f1⟩ := hi.under
  obtain ⟨d2, _, h2, f2⟩ := hj.under
  obtain ⟨d3, _, h3, f3⟩ := hm.under
  rw [hk'] at f1; rw [hk] at f2; rw [hke] at f3
  simp only [TyK.fits] at f1 f2 f3
  subst f1 f2 f3
  have hr := Lib.run_convert_string_bytes (P := P) w s d e ⟨l.toArray⟩ h1 h2 h3
  rw [size_mk] at hr
  have hc : l.length ≤ grownCap w l.length 0 e := by simp [grownCap, Question.cut]
  refine ⟨_, _, hr, hK _ _ hc ?_ ?_ ?_ ?_⟩
  · simp [Lib.bytesWorld, World.freeze, World.alloc, World.drew, -World.alloc_eq, -World.drew_eq]
  · simp [Lib.bytesWorld, World.freeze, World.alloc, World.drew, -World.alloc_eq, -World.drew_eq]
  · simp [Lib.bytesWorld, World.freeze, World.alloc, World.drew, -World.alloc_eq, -World.drew_eq]
  · have hcells : Lib.bytesCells w e ⟨l.toArray⟩ = (l.map byt).toArray ++ Array.replicate (grownCap w l.length 0 e - l.length) (.int .u8 0) := by
      simp [Lib.bytesCells, size_mk]
    have hsz : (Lib.bytesCells w e ⟨l.toArray⟩).size = grownCap w l.length 0 e := by rw [hcells]; simp; omega
    have hs := Lib.bytesWorld_size w e ⟨l.toArray⟩
    apply Array.ext_getElem?
    intro q
    rcases Nat.lt_trichotomy q w.heap.size with hq | hq | hq
    · rw [Lib.bytesWorld_at_old w e _ q hq, Array.getElem?_push, if_neg (by omega)]
    · subst hq
      rw [Lib.bytesWorld_at_new, hsz, hcells, Array.getElem?_push, if_pos rfl]
    · rw [Array.getElem?_eq_none (by rw [hs]; omega), Array.getElem?_eq_none (by simp; omega)]
end Go.Vx
namespace Go.Vx
open Go

/-! ### Addresses -/
def nc (x : Value) (K : Value → World → Prop) (w : World) : Prop := ∃ a, x = .pointer (some a) ∧ K x w
/-- a field's place -/
def fa (off : Nat) (x : Value) (K : Value → World → Prop) (w : World) : Prop := ∃ b o, x = ptr b o ∧ K (ptr b (o + off)) w

theorem so_fa {P : Program} {s t : TypeId} {i j : TI} (hi : i.ok P s) {fs : List (Nat × TypeId)} (hk : i.kind = .struct fs) {f off : Nat} (hf : fs[f]? = some (off, t)) (hj : j.ok P t) (hs : j.size ≠ 0)
    {x : Value} {K : Value → World → Prop} {w : World} (h : fa off x K w) : RunV P (Instr.fieldAt s x f) w K := by
  obtain ⟨b, o, rfl, hK⟩ := h
  obtain ⟨d, h1, _, f1⟩ := hi.under
  rw [hk] at f1
  obtain ⟨fields, rfl, hfs⟩ := f1
  subst hfs
  simp only [List.getElem?_map, Option.map_eq_some_iff, Array.getElem?_toList, Prod.mk.injEq] at hf
  obtain ⟨fl, hfl, rfl, rfl⟩ := hf
  refine ⟨_, w, ?_, hK⟩
  simp only [Instr.fieldAt, Sem.run_bind, h1, Result.andThen_ok, hfl, Instr.sureAddr, Sem.run_pure, fieldPlace, hj.sizeOf w]
  rw [if_neg hs]
  simp [add_plain]

/-- an element's place -/
def ia (size : Nat) (x i : Value) (K : Value → World → Prop) (w : World) : Prop :=
  ∃ b o n c k j, x = .slice (some ⟨b, o, none⟩) n c ∧ i = .int k j ∧ 0 ≤ j ∧ j < n ∧ K (ptr b (o + j.toNat * size)) w

theorem so_ia {P : Program} {t e : TypeId} {i j : TI} (hi : i.ok P t) (hk : i.kind = .slice e) (hj : j.ok P e) {x ix : Value} {K : Value → World → Prop} {w : World} (h : ia j.size x ix K w) : RunV P (Instr.indexAt t x ix) w K := by
  obtain ⟨b, o, n, c, k, q, rfl, rfl, h0, h1, hK⟩ := h
  obtain ⟨d, hd, _, f1⟩ := hi.under
  rw [hk] at f1
  simp only [TyK.fits] at f1
  subst f1
  refine ⟨_, w, ?_, hK⟩
  simp [Instr.indexAt, asIntOf, hd, hj.sizeOf w, h0, h1, add_plain]

/-- an element's place in an array behind a pointer -/
def iar (n size : Nat) (x i : Value) (K : Value → World → Prop) (w : World) : Prop :=
  ∃ b o k j, x = ptr b o ∧ i = .int k j ∧ 0 ≤ j ∧ j < n ∧ K (ptr b (o + j.toNat * size)) w

theorem so_iar {P : Program} {t e : TypeId} {i j : TI} {n : Nat} (hi : i.ok P t) (hk : i.kind = .array n e) (hj : j.ok P e) {x ix : Value} {K : Value → World → Prop} {w : World} (h : iar n j.size x ix K w) : RunV P (Instr.indexAt t x ix) w K := by
  obtain ⟨b, o, k, q, rfl, rfl, h0, h1, hK⟩ := h
  obtain ⟨d, hd, _, f1⟩ := hi.under
  rw [hk] at f1
  simp only [TyK.fits] at f1
  subst f1
  refine ⟨_, w, ?_, hK⟩
  simp [Instr.indexAt, asIntOf, hd, hj.sizeOf w, h0, h1, add_plain, Instr.sureAddr]

/-! ### Parts of values -/
def partV (agg : Bool) (size : Nat) (cs : List Value) (off : Nat) : Option Value :=
  match agg with
  | true => some (.agg ((cs.drop off).take size).toArray)
  | false => cs[off]?

/-- a field of a struct that is a value -/
def fl (agg : Bool) (size off : Nat) (x : Value) (K : Value → World → Prop) (w : World) : Prop :=
  ∃ cs v, x = .agg cs ∧ partV agg size cs.toList off = some v ∧ K v w

theorem run_part {P : Program} {t : TypeId} {i : TI} (hi : i.ok P t) {cs : Array Value} {off : Nat} {v : Value} {w : World} (h : partV i.kind.agg i.size cs.toList off = some v) : (part t cs off).run P w = .ok v w := by
  unfold part
  simp only [Sem.run_bind, hi.isAgg w, Result.andThen_ok]
  unfold partV at h
  cases hk : i.kind.agg <;> rw [hk] at h
  · simp only [Bool.false_eq_true, if_false]
    simp only [Array.getElem?_toList] at h
    simp [h]
  · simp only [if_true, Sem.run_bind, hi.sizeOf w, Result.andThen_ok, Sem.run_pure]
    simp only [Option.some.injEq] at h
    subst h
    congr 2
    apply Array.ext'
    simp [Array.toList_extract, List.extract_eq_take_drop]

theorem so_fl {P : Program} {s t : TypeId} {i j : TI} (hi : i.ok P s) {fs : List (Nat × TypeId)} (hk : i.kind = .struct fs) {f off : Nat} (hf : fs[f]? = some (off, t)) (hj : j.ok P t)
    {x : Value} {K : Value → World → Prop} {w : World} (h : fl j.kind.agg j.size off x K w) : RunV P (Instr.field s x f) w K := by
  obtain ⟨cs, v, rfl, hv, hK⟩ := h
  obtain ⟨d, h1, _, f1⟩ := hi.under
  rw [hk] at f1
  obtain ⟨fields, rfl, hfs⟩ := f1
  subst hfs
  simp only [List.getElem?_map, Option.map_eq_some_iff, Array.getElem?_toList, Prod.mk.injEq] at hf
  obtain ⟨fl, hfl, rfl, rfl⟩ := hf
  refine ⟨_, w, ?_, hK⟩
  simp [Instr.field, h1, hfl, asAgg, run_part hj hv]

/-- a byte of a string -/
def ix (x i : Value) (K : Value → World → Prop) (w : World) : Prop :=
  ∃ l k j c, x = str l ∧ i = .int k j ∧ 0 ≤ j ∧ l[j.toNat]? = some c ∧ K (byt c) w

theorem get_mk (l : List UInt8) (n : Nat) : (ByteArray.mk l.toArray)[n]? = l[n]? := by
  by_cases h : n < l.length
  · have h' : n < (ByteArray.mk l.toArray).size := by rw [size_mk]; exact h
    rw [getElem?_pos (ByteArray.mk l.toArray) n h', List.getElem?_eq_getElem h]
    rfl
  · have h' : ¬ n < (ByteArray.mk l.toArray).size := by rw [size_mk]; exact h
    rw [getElem?_neg (ByteArray.mk l.toArray) n h', List.getElem?_eq_none (by omega)]

theorem so_ix {P : Program} {t : TypeId} {i : TI} (hi : i.ok P t) (hk : i.kind = .str) {x q : Value} {K : Value → World → Prop} {w : World} (h : ix x q K w) : RunV P (Instr.index t x q) w K := by
  obtain ⟨l, k, j, c, rfl, rfl, h0, hc, hK⟩ := h
  obtain ⟨d, hd, _, f1⟩ := hi.under
  rw [hk] at f1
  simp only [TyK.fits] at f1
  subst f1
  refine ⟨_, w, ?_, hK⟩
  simp only [Instr.index, asIntOf, Sem.run_bind, Sem.run_pure, Result.andThen_ok, hd]
  rw [if_pos h0, get_mk, hc]
  rfl

/-- a part of a string; 'none': from the start, to the end -/
def slS (x : Value) (lo hi : Option Value) (K : Value → World → Prop) (w : World) : Prop :=
  ∃ l a b, x = str l ∧ (lo = none ∧ a = 0 ∨ ∃ k, lo = some (.int k a)) ∧ (hi = none ∧ b = (l.length : Int) ∨ ∃ k, hi = some (.int k b)) ∧ 0 ≤ a ∧ a ≤ b ∧ b ≤ l.length ∧
    K (str ((l.drop a.toNat).take (b.toNat - a.toNat))) w

theorem so_slS {P : Program} {t : TypeId} {i : TI} (hi : i.ok P t) (hk : i.kind = .str) {x : Value} {lo hi' : Option Value} {K : Value → World → Prop} {w : World} (h : slS x lo hi' K w) : RunV P (Instr.sliceAt t x lo hi' none) w K := by
  obtain ⟨l, a, b, rfl, hlo, hhi, h0, h1, h2, hK⟩ := h
  obtain ⟨d, hd, _, f1⟩ := hi.under
  rw [hk] at f1
  simp only [TyK.fits] at f1
  subst f1
  refine ⟨_, w, ?_, hK⟩
  have hb : (Instr.sliceBounds false (ByteArray.mk l.toArray).size (ByteArray.mk l.toArray).size lo hi' none).run P w = .ok (a.toNat, b.toNat, l.length) w := by
    have e1 : 0 ≤ b ∧ b ≤ (l.length : Int) := ⟨by omega, h2⟩
    have e2 : 0 ≤ a ∧ a ≤ ((b.toNat : Nat) : Int) := ⟨h0, by omega⟩
    have e3 : 0 ≤ a ∧ a ≤ b := ⟨h0, h1⟩
    have e4 : max b 0 = b := by omega
    rcases hlo with ⟨rfl, rfl⟩ | ⟨k, rfl⟩ <;> rcases hhi with ⟨rfl, rfl⟩ | ⟨k', rfl⟩ <;>
      simp only [Instr.sliceBounds, Instr.sliceBound, asIntOf, size_mk, Sem.run_bind, Sem.run_pure, Result.andThen_ok, Int.toNat_natCast, Int.toNat_zero] <;>
      (try rw [if_pos e1]) <;> (try simp only [Sem.run_bind, Sem.run_pure, Result.andThen_ok]) <;> (try rw [if_pos e2]) <;> (try rw [if_pos e3]) <;> (try simp only [Sem.run_bind, Sem.run_pure, Result.andThen_ok])
  simp only [Instr.sliceAt, Instr.slice, Sem.run_bind, hd, Result.andThen_ok, Option.isSome_none, Bool.false_eq_true, if_false, hb, Sem.run_pure]
  rw [ByteArray.extract_mk]

/-- a part of a slice -/
def slL (size : Nat) (x : Value) (lo hi mx : Option Value) (K : Value → World → Prop) (w : World) : Prop :=
  ∃ ad n c a b m, x = .slice ad n c ∧ (lo = none ∧ a = 0 ∨ ∃ k, lo = some (.int k a)) ∧ (mx = none ∧ m = (c : Int) ∨ ∃ k, mx = some (.int k m)) ∧ (hi = none ∧ b = (n : Int) ∧ mx = none ∨ ∃ k, hi = some (.int k b)) ∧
    0 ≤ a ∧ a ≤ b ∧ b ≤ m ∧ m ≤ c ∧ K (.slice (if m = a then ad else ad.map (·.add (a.toNat * size))) (b.toNat - a.toNat) (m.toNat - a.toNat)) w

theorem so_slL {P : Program} {t e : TypeId} {i j : TI} (hi : i.ok P t) (hk : i.kind = .slice e) (hj : j.ok P e) {x : Value} {lo hi' mx : Option Value} {K : Value → World → Prop} {w : World} (h : slL j.size x lo hi' mx K w) : RunV P (Instr.sliceAt t x lo hi' mx) w K := by
  obtain ⟨ad, n, c, a, b, m, rfl, hlo, hmx, hhi, h0, h1, h2, h3, hK⟩ := h
  obtain ⟨d, hd, _, f1⟩ := hi.under
  rw [hk] at f1
  simp only [TyK.fits] at f1
  subst f1
  refine ⟨_, w, ?_, hK⟩
  have hb : (Instr.sliceBounds true n c lo hi' mx).run P w = .ok (a.toNat, b.toNat, m.toNat) w := by
    have e0 : 0 ≤ m ∧ m ≤ (c : Int) := ⟨by omega, h3⟩
    have e1 : 0 ≤ b ∧ b ≤ ((m.toNat : Nat) : Int) := ⟨by omega, by omega⟩
    have e1' : 0 ≤ b ∧ b ≤ (m : Int) := ⟨by omega, by omega⟩
    have e2 : 0 ≤ a ∧ a ≤ ((b.toNat : Nat) : Int) := ⟨h0, by omega⟩
    have e3 : 0 ≤ a ∧ a ≤ b := ⟨h0, h1⟩
    rcases hlo with ⟨rfl, rfl⟩ | ⟨k, rfl⟩ <;> rcases hmx with ⟨rfl, rfl⟩ | ⟨k2, rfl⟩ <;> rcases hhi with ⟨rfl, rfl, hm⟩ | ⟨k', rfl⟩ <;> (try simp at hm) <;>
      simp only [Instr.sliceBounds, Instr.sliceBound, asIntOf, Sem.run_bind, Sem.run_pure, Result.andThen_ok, Int.toNat_natCast, Int.toNat_zero] <;>
      (try rw [if_pos e0]) <;> (try simp only [Sem.run_bind, Sem.run_pure, Result.andThen_ok]) <;>
      (try rw [if_pos e1]) <;> (try rw [if_pos e1']) <;> (try simp only [Sem.run_bind, Sem.run_pure, Result.andThen_ok]) <;> (try rw [if_pos e2]) <;> (try rw [if_pos e3]) <;> (try simp only [Sem.run_bind, Sem.run_pure, Result.andThen_ok])
  simp only [Instr.sliceAt, Instr.slice, Sem.run_bind, hd, Result.andThen_ok, hb, hj.sizeOf w, Sem.run_pure]
  have : (m.toNat = a.toNat) ↔ (m = a) := by omega
  simp only [this]

/-- a part of an array that lies somewhere -/
def slA (n size : Nat) (x : Value) (lo hi mx : Option Value) (K : Value → World → Prop) (w : World) : Prop :=
  ∃ bl o a b m, x = ptr bl o ∧ (lo = none ∧ a = 0 ∨ ∃ k, lo = some (.int k a)) ∧ (mx = none ∧ m = (n : Int) ∨ ∃ k, mx = some (.int k m)) ∧ (hi = none ∧ b = (n : Int) ∧ mx = none ∨ ∃ k, hi = some (.int k b)) ∧
    0 ≤ a ∧ a ≤ b ∧ b ≤ m ∧ m ≤ n ∧ K (.slice (some (if m = a then ⟨bl, o, none⟩ else ⟨bl, o + a.toNat * size, none⟩)) (b.toNat - a.toNat) (m.toNat - a.toNat)) w

theorem so_slA {P : Program} {t e : TypeId} {n : Nat} {i j : TI} (hi : i.ok P t) (hk : i.kind = .array n e) (hj : j.ok P e) {x : Value} {lo hi' mx : Option Value} {K : Value → World → Prop} {w : World} (h : slA n j.size x lo hi' mx K w) : RunV P (Instr.sliceAt t x lo hi' mx) w K := by
  obtain ⟨bl, o, a, b, m, rfl, hlo, hmx, hhi, h0, h1, h2, h3, hK⟩ := h
  obtain ⟨d, hd, _, f1⟩ := hi.under
  rw [hk] at f1
  simp only [TyK.fits] at f1
  subst f1
  refine ⟨_, w, ?_, hK⟩
  have hb : (Instr.sliceBounds false n n lo hi' mx).run P w = .ok (a.toNat, b.toNat, m.toNat) w := by
    have e0 : 0 ≤ m ∧ m ≤ (n : Int) := ⟨by omega, h3⟩
    have e1 : 0 ≤ b ∧ b ≤ ((m.toNat : Nat) : Int) := ⟨by omega, by omega⟩
    have e1' : 0 ≤ b ∧ b ≤ (m : Int) := ⟨by omega, by omega⟩
    have e2 : 0 ≤ a ∧ a ≤ ((b.toNat : Nat) : Int) := ⟨h0, by omega⟩
    have e3 : 0 ≤ a ∧ a ≤ b := ⟨h0, h1⟩
    rcases hlo with ⟨rfl, rfl⟩ | ⟨k, rfl⟩ <;> rcases hmx with ⟨rfl, rfl⟩ | ⟨k2, rfl⟩ <;> rcases hhi with ⟨rfl, rfl, hm⟩ | ⟨k', rfl⟩ <;> (try simp at hm) <;>
      simp only [Instr.sliceBounds, Instr.sliceBound, asIntOf, Sem.run_bind, Sem.run_pure, Result.andThen_ok, Int.toNat_natCast, Int.toNat_zero] <;>
      (try rw [if_pos e0]) <;> (try simp only [Sem.run_bind, Sem.run_pure, Result.andThen_ok]) <;>
      (try rw [if_pos e1]) <;> (try rw [if_pos e1']) <;> (try simp only [Sem.run_bind, Sem.run_pure, Result.andThen_ok]) <;> (try rw [if_pos e2]) <;> (try rw [if_pos e3]) <;> (try simp only [Sem.run_bind, Sem.run_pure, Result.andThen_ok])
  simp only [Instr.sliceAt, Instr.sureAddr, Sem.run_bind, hd, Result.andThen_ok, hb, hj.sizeOf w, Sem.run_pure]
  have : (m.toNat = a.toNat) ↔ (m = a) := by omega
  simp only [this, add_plain]

/-- an element of a tuple -/
def ex (x : Value) (i : Nat) (K : Value → World → Prop) (w : World) : Prop := ∃ vs v, x = .tuple vs ∧ vs.toList[i]? = some v ∧ K v w
theorem so_ex {P : Program} {x : Value} {i : Nat} {K : Value → World → Prop} {w : World} (h : ex x i K w) : RunV P (Instr.extract x i) w K := by
  obtain ⟨vs, v, rfl, hv, hK⟩ := h
  simp only [Array.getElem?_toList] at hv
  exact ⟨v, w, by simp [Instr.extract, hv], hK⟩

def pk (c a b : Value) (K : Value → World → Prop) (w : World) : Prop := ∃ t, c = .bool t ∧ K (bif t then a else b) w

/-- not -/
def uN (x : Value) (K : Value → World → Prop) (w : World) : Prop := ∃ b, x = .bool b ∧ K (.bool (!b)) w
/-- minus -/
def uM (x : Value) (K : Value → World → Prop) (w : World) : Prop := ∃ k n, x = .int k n ∧ K (.int k (k.wrap (0 - n))) w

/-! ### New memory -/
def al (z : List Value) (t : TypeId) (K : Value → World → Prop) (w : World) : Prop := K (ptr w.heap.size 0) { w with heap := w.heap.push (.cells z.toArray t) }

theorem run_newRow {P : Program} (z : Array Value) (t : TypeId) (w : World) : (newRow t z).run P w = .ok ⟨w.heap.size, 0, none⟩ { w with heap := w.heap.push (.cells z t) } := by
  simp [newRow, newObj, Sem.run, World.alloc, -World.alloc_eq]

theorem so_al {P : Program} {t : TypeId} {i : TI} (hi : i.ok P t) {K : Value → World → Prop} {w : World} (h : al i.zero.cells.toList t K w) : RunV P (Instr.alloc t true (.tuple #[])) w K := by
  refine ⟨_, _, ?_, h⟩
  simp only [Instr.alloc, Sem.run_bind, hi.zero w, Result.andThen_ok, newVar, run_newRow, Sem.run_pure]
  try simp

theorem so_box {P : Program} {t : TypeId} {v : Value} {K : Value → World → Prop} {w : World} (h : al v.cells.toList t K w) : RunV P (Instr.box t v) w K := by
  refine ⟨_, _, ?_, h⟩
  simp only [Instr.box, newVar, Sem.run_bind, run_newRow, Result.andThen_ok, Sem.run_pure]
  try simp

/-- Cells filled with parts: (place, size, part). -/
def fillV (cells : List Value) : List (Nat × Nat × Value) → Option (List Value)
  | [] => some cells
  | (off, size, v) :: rest =>
    match Nat.beq v.cells.size size && Nat.ble (off + size) cells.length with
    | true => fillV (wr cells.toArray off v.cells.toList).toList rest
    | false => none

theorem wr_foldl (vs : List Value) : ∀ (c : Array Value) (o j : Nat), (vs.zipIdx j).foldl (fun cs (p : Value × Nat) => cs.setIfInBounds (o + p.2) p.1) c = wr c (o + j) vs := by
  induction vs with
  | nil => intro c o j; rfl
  | cons v vs ih => intro c o j; simp only [List.zipIdx_cons, List.foldl_cons, wr]; rw [ih]; rfl

theorem size_wr : ∀ (vs : List Value) (c : Array Value) (o : Nat), (wr c o vs).size = c.size := by
  intro vs
  induction vs with
  | nil => intro c o; rfl
  | cons v vs ih => intro c o; simp only [wr]; rw [ih]; simp

theorem fill_of_fillV {place : Nat → Option (Nat × Nat)} : ∀ (parts : List (Nat × Value)) (ps : List (Nat × Nat × Value)) (cells : List Value) (cs : List Value),
    ps.length = parts.length → (∀ (j i : Nat) (v : Value), parts[j]? = some (i, v) → ∃ off size, place i = some (off, size) ∧ ps[j]? = some (off, size, v)) → fillV cells ps = some cs →
    Instr.fill place cells.toArray parts = some cs.toArray := by
  intro parts
  induction parts with
  | nil =>
    intro ps cells cs hl _ h
    simp only [List.length_nil, List.length_eq_zero_iff] at hl
    subst hl
    simp only [fillV, Option.some.injEq] at h
    subst h
    rfl
  | cons p parts ih =>
    intro ps cells cs hl hp h
    obtain ⟨i, v⟩ := p
    obtain ⟨off, size, hpl, h0⟩ := hp 0 i v (by simp)
    cases ps with
    | nil => simp at h0
    | cons q ps =>
      simp only [List.getElem?_cons_zero, Option.some.injEq] at h0
      subst h0
      simp only [fillV] at h
      split at h
      · rename_i hb
        simp only [Bool.and_eq_true] at hb
        have h1 : v.cells.size = size := Nat.eq_of_beq_eq_true hb.1
        have h2 : off + size ≤ cells.length := Nat.le_of_ble_eq_true hb.2
        simp only [Instr.fill, hpl]
        rw [if_neg (by simp [h1]; omega)]
        have hw : v.cells.zipIdx.foldl (fun cs (p : Value × Nat) => cs.setIfInBounds (off + p.2) p.1) cells.toArray = wr cells.toArray off v.cells.toList := by
          rw [← Array.foldl_toList, Array.toList_zipIdx]
          exact wr_foldl v.cells.toList cells.toArray off 0
        have := ih ps (wr cells.toArray off v.cells.toList).toList cs (by simpa using hl) (fun j i v hj => hp (j + 1) i v (by simpa using hj)) h
        rw [Array.toArray_toList] at this
        rw [← this, ← hw]
      · simp at h
end Go.Vx
namespace Go.Vx
open Go

theorem pos_of_lt_mul {i n m : Nat} (h : i < n * m) : 0 < m := by
  rcases Nat.eq_zero_or_pos m with h0 | h0
  · rw [h0] at h; simp at h
  · exact h0

theorem run_mapM_list {P : Program} {α β : Type} {f : α → Sem β} {g : α → β} {w : World} : ∀ (l : List α), (∀ x ∈ l, (f x).run P w = .ok (g x) w) → (l.mapM f).run P w = .ok (l.map g) w := by
  intro l
  induction l with
  | nil => intro _; simp
  | cons x l ih =>
    intro h
    simp only [List.mapM_cons, Sem.run_bind, h x (by simp), Result.andThen_ok, ih (fun y hy => h y (by simp [hy])), Sem.run_pure, List.map_cons]

theorem run_map_list {P : Program} {α β : Type} {x : Sem α} {g : α → β} {w w' : World} {a : α} (h : x.run P w = .ok a w') : (g <$> x).run P w = .ok (g a) w' := by
  have : (g <$> x) = (x >>= fun a => pure (g a)) := rfl
  rw [this, Sem.run_bind, h]
  rfl

theorem run_mapM_array {P : Program} {α β : Type} {f : α → Sem β} {g : α → β} {w : World} (a : Array α) (h : ∀ x ∈ a.toList, (f x).run P w = .ok (g x) w) : (a.mapM f).run P w = .ok (a.map g) w := by
  rw [Array.mapM_eq_mapM_toList, run_map_list (run_mapM_list a.toList h)]
  congr 1
  apply Array.ext'
  simp

/-- A struct's value, built of parts; 'ps': place, size, part. -/
def bd (zero : List Value) (ps : List (Nat × Nat × Value)) (K : Value → World → Prop) (w : World) : Prop := ∃ cs, fillV zero ps = some cs ∧ K (.agg cs.toArray) w

def fieldsOk (P : Program) (fs : List (Nat × TypeId)) (sz : List Nat) : Prop := sz.length = fs.length ∧ ∀ (j off : Nat) (t : TypeId), fs[j]? = some (off, t) → ∃ (i : TI), i.ok P t ∧ sz[j]? = some i.size

theorem so_bd {P : Program} {t : TypeId} {i : TI} (hi : i.ok P t) {fs : List (Nat × TypeId)} (hk : i.kind = .struct fs) {sz : List Nat} (hf : fieldsOk P fs sz)
    {parts : Array (Nat × Value)} {ps : List (Nat × Nat × Value)} (hl : ps.length = parts.size)
    (hp : ∀ (j f : Nat) (v : Value), parts.toList[j]? = some (f, v) → ∃ off size ty, fs[f]? = some (off, ty) ∧ sz[f]? = some size ∧ ps[j]? = some (off, size, v))
    {K : Value → World → Prop} {w : World} (h : bd i.zero.cells.toList ps K w) : RunV P (Instr.build t parts) w K := by
  obtain ⟨cs, hcs, hK⟩ := h
  obtain ⟨d, h1, _, f1⟩ := hi.under
  rw [hk] at f1
  obtain ⟨fields, rfl, hfs⟩ := f1
  refine ⟨_, w, ?_, hK⟩
  have hm : (fields.mapM fun (f : Field) => do pure (f.offset, ← sizeOf f.type)).run P w = .ok (fields.map fun (f : Field) => (f.offset, P.cellsOf f.type)) w := by
    refine run_mapM_array fields fun x hx => ?_
    obtain ⟨j, hj⟩ := List.mem_iff_getElem?.1 hx
    obtain ⟨ti, hti, _⟩ := hf.2 j x.offset x.type (by rw [← hfs]; simp only [List.getElem?_map, hj]; rfl)
    obtain ⟨xi, hxi, hsz, _⟩ := hti.info
    simp [hti.sizeOf w, Program.cellsOf, hxi, hsz]
  have hfill : Instr.fill ((fields.map fun (f : Field) => (f.offset, P.cellsOf f.type))[·]?) i.zero.cells parts.toList = some cs.toArray := by
    have := fill_of_fillV (place := ((fields.map fun (f : Field) => (f.offset, P.cellsOf f.type))[·]?)) parts.toList ps i.zero.cells.toList cs (by simpa using hl) (fun j f v hj => ?_) hcs
    · simpa using this
    · obtain ⟨off, size, ty, h2, h3, h4⟩ := hp j f v hj
      refine ⟨off, size, ?_, h4⟩
      obtain ⟨ti, hti, hs⟩ := hf.2 f off ty h2
      rw [h3] at hs
      simp only [Option.some.injEq] at hs
      subst hs
      rw [← hfs] at h2
      simp only [List.getElem?_map, Option.map_eq_some_iff, Array.getElem?_toList, Prod.mk.injEq] at h2
      obtain ⟨fl, hfl, rfl, rfl⟩ := h2
      obtain ⟨xi, hxi, hsz, _⟩ := hti.info
      simp [hfl, Program.cellsOf, hxi, hsz]
  simp only [Instr.build, Sem.run_bind, hi.zero w, Result.andThen_ok, h1, hm, hfill, Sem.run_pure]

theorem so_bda {P : Program} {t e : TypeId} {i j : TI} {n : Nat} (hi : i.ok P t) (hk : i.kind = .array n e) (hj : j.ok P e)
    {parts : Array (Nat × Value)} {ps : List (Nat × Nat × Value)} (hl : ps.length = parts.size)
    (hp : ∀ (q f : Nat) (v : Value), parts.toList[q]? = some (f, v) → ps[q]? = some (f * j.size, j.size, v))
    {K : Value → World → Prop} {w : World} (h : bd i.zero.cells.toList ps K w) : RunV P (Instr.build t parts) w K := by
  obtain ⟨cs, hcs, hK⟩ := h
  obtain ⟨d, h1, _, f1⟩ := hi.under
  rw [hk] at f1
  simp only [TyK.fits] at f1
  subst f1
  refine ⟨_, w, ?_, hK⟩
  have hfill : Instr.fill (fun i => some (i * j.size, j.size)) i.zero.cells parts.toList = some cs.toArray := by
    have := fill_of_fillV (place := fun i => some (i * j.size, j.size)) parts.toList ps i.zero.cells.toList cs (by simpa using hl) (fun q f v hq => ⟨_, _, rfl, hp q f v hq⟩) hcs
    simpa using this
  simp only [Instr.build, Sem.run_bind, hi.zero w, Result.andThen_ok, h1, hj.sizeOf w, hfill, Sem.run_pure]

/-- A literal of a slice: a new row. -/
def bs (e : TypeId) (zero : List Value) (n : Nat) (ps : List (Nat × Nat × Value)) (K : Value → World → Prop) (w : World) : Prop :=
  ∃ cs, fillV ((List.range (n * zero.length)).map (fun i => zero.getD (i % zero.length) undef)) ps = some cs ∧
    K (.slice (some ⟨w.heap.size, 0, none⟩) n n) { w with heap := w.heap.push (.cells cs.toArray e) }

theorem so_bs {P : Program} {t e : TypeId} {i j : TI} (hi : i.ok P t) (hk : i.kind = .slice e) (hj : j.ok P e) (hz : j.zero.cells.size = j.size) {n : Nat} (hn : n * j.size ≤ 16777216)
    {parts : Array (Nat × Value)} {ps : List (Nat × Nat × Value)} (hl : ps.length = parts.size)
    (hp : ∀ (q f : Nat) (v : Value), parts.toList[q]? = some (f, v) → ps[q]? = some (f * j.size, j.size, v))
    {K : Value → World → Prop} {w : World} (h : bs e j.zero.cells.toList n ps K w) : RunV P (Instr.buildSlice t n parts) w K := by
  obtain ⟨cs, hcs, hK⟩ := h
  obtain ⟨d, h1, _, f1⟩ := hi.under
  rw [hk] at f1
  simp only [TyK.fits] at f1
  subst f1
  refine ⟨_, _, ?_, hK⟩
  simp only [Array.length_toList, hz] at hcs
  simp only [Instr.buildSlice, Sem.run_bind, h1, Result.andThen_ok, hj.sizeOf w]
  rw [if_neg (by omega)]
  have hfill : ∀ z : Array Value, (n * j.size = 0 ∨ z = j.zero.cells) → Instr.fill (fun i => some (i * j.size, j.size)) ((Array.range (n * j.size)).map (z[· % z.size]!)) parts.toList = some cs.toArray := by
    intro z hz'
    have := fill_of_fillV (place := fun i => some (i * j.size, j.size)) parts.toList ps _ cs (by simpa using hl) (fun q f v hq => ⟨_, _, rfl, hp q f v hq⟩) hcs
    rw [← this]
    congr 1
    apply Array.ext'
    simp only [Array.toList_map, Array.toList_range]
    apply List.map_congr_left
    intro x hx
    simp only [List.mem_range] at hx
    rcases hz' with h0 | rfl
    · omega
    · have hlt : x % j.size < j.zero.cells.size := by rw [hz]; exact Nat.mod_lt _ (pos_of_lt_mul hx)
      rw [hz, getElem!_pos j.zero.cells _ hlt]
      simp [List.getD_eq_getElem?_getD, hlt]
  by_cases h0 : n * j.size = 0
  · rw [if_pos h0]
    simp only [Sem.run_bind, Sem.run_pure, Result.andThen_ok]
    rw [hfill #[] (.inl h0)]
    simp only [Sem.run_bind, run_newRow, Result.andThen_ok, Sem.run_pure]
  · rw [if_neg h0]
    simp only [Sem.run_bind, hj.zero w, Sem.run_pure, Result.andThen_ok]
    rw [hfill _ (.inr rfl)]
    simp only [Sem.run_bind, run_newRow, Result.andThen_ok, Sem.run_pure]

/-- n zero values in a row. -/
def zerosV (zero : List Value) : Nat → List Value
  | 0 => []
  | n + 1 => zero ++ zerosV zero n

theorem length_zerosV (z : List Value) (n : Nat) : (zerosV z n).length = n * z.length := by
  induction n with
  | zero => simp [zerosV]
  | succ n ih => simp [zerosV, ih, Nat.succ_mul]; omega

theorem getD_zerosV (z : List Value) : ∀ (n i : Nat), i < n * z.length → (zerosV z n)[i]? = z[i % z.length]? := by
  intro n
  induction n with
  | zero => intro i h; omega
  | succ n ih =>
    intro i h
    simp only [zerosV]
    rw [Nat.succ_mul] at h
    by_cases hi : i < z.length
    · rw [List.getElem?_append_left hi, Nat.mod_eq_of_lt hi]
    · rw [List.getElem?_append_right (by omega), ih _ (by omega)]
      rw [Nat.mod_eq_sub_mod (show i ≥ z.length by omega)]

theorem zeros_array (z : Array Value) (n : Nat) : ((Array.range (n * z.size)).map (z[· % z.size]!)) = (zerosV z.toList n).toArray := by
  apply Array.ext'
  apply List.ext_getElem?
  intro i
  simp only [Array.toList_map, Array.toList_range, List.getElem?_map]
  by_cases h : i < n * z.size
  · rw [List.getElem?_range h, getD_zerosV z.toList n i (by simpa using h)]
    have hlt : i % z.size < z.size := Nat.mod_lt _ (pos_of_lt_mul h)
    have hb := getElem!_pos z (i % z.size) hlt
    simp [hb, hlt]
  · rw [List.getElem?_eq_none (by simpa using h), List.getElem?_eq_none (by rw [length_zerosV]; simpa using h)]
    rfl

/-- make([]T, n, c) -/
def mk (e : TypeId) (bytes : Nat) (zero : List Value) (x y : Value) (K : Value → World → Prop) (w : World) : Prop :=
  ∃ k k' n c, x = .int k n ∧ y = .int k' c ∧ 0 ≤ n ∧ n ≤ c ∧ bytes * c ≤ 281474976710656 ∧ c ≤ 9223372036854775807 ∧
    K (.slice (some ⟨w.heap.size, 0, none⟩) n.toNat c.toNat) { w with heap := w.heap.push (.cells (zerosV zero c.toNat).toArray e) }

theorem wrap64_of {n : Int} (h0 : -9223372036854775808 ≤ n) (h1 : n ≤ 9223372036854775807) : IntKind.i64.wrap n = n := by
  have e : (2 : Int) ^ IntKind.i64.bits = 18446744073709551616 := by decide
  have e' : (2 : Int) ^ (IntKind.i64.bits - 1) = 9223372036854775808 := by decide
  unfold IntKind.wrap
  simp only [e, e', show IntKind.i64.signed = true from rfl, Bool.true_and, decide_eq_true_eq]
  split <;> omega

theorem so_mk {P : Program} {t e : TypeId} {i j : TI} (hi : i.ok P t) (hk : i.kind = .slice e) (hj : j.ok P e) (hz : j.zero.cells.size = j.size) {x y : Value} {K : Value → World → Prop} {w : World}
    (h : mk e j.bytes j.zero.cells.toList x y K w) : RunV P (Instr.makeSlice t x y) w K := by
  obtain ⟨k, k', n, c, rfl, rfl, h0, h1, h2, h3, hK⟩ := h
  obtain ⟨d, hd, _, f1⟩ := hi.under
  rw [hk] at f1
  simp only [TyK.fits] at f1
  subst f1
  obtain ⟨xi, hxi, hxs, hxb, hxz⟩ := hj.typeInfo
  refine ⟨_, _, ?_, hK⟩
  have e1 : IntKind.i64.wrap n = n := wrap64_of (by omega) (by omega)
  have e2 : IntKind.i64.wrap c = c := wrap64_of (by omega) (by omega)
  have hbig : (xi.bytes : Int) * c ≤ 281474976710656 := by rw [hxb]; exact h2
  have hroom : ∀ m : Nat, (askRoom m).run P w = .ok () w := by
    intro m
    unfold askRoom
    split
    · simp [mark, Sem.run]
    · rfl
  simp only [Instr.makeSlice, Sem.run_bind, hd, Result.andThen_ok, asInt, asIntOf, Sem.run_pure, hxi, e1, e2]
  have hcond : ((decide (c < 0) || decide ((xi.bytes : Int) * c > 2 ^ 48)) || decide (n < 0) || decide (n > c)) = false := by
    have p : (2 : Int) ^ 48 = 281474976710656 := by decide
    simp only [p, Bool.or_eq_false_iff, decide_eq_false_iff_not]
    omega
  rw [if_neg (by rw [hcond]; simp)]
  simp only [Sem.run_bind, Sem.run_pure, Result.andThen_ok, hroom, hj.sizeOf w]
  by_cases hzero : c.toNat * j.size = 0
  · rw [if_pos hzero]
    simp only [Sem.run_pure, Result.andThen_ok, Sem.run_bind, run_newRow]
    have : zerosV j.zero.cells.toList c.toNat = [] := by
      apply List.eq_nil_of_length_eq_zero
      rw [length_zerosV, Array.length_toList, hz, hzero]
    rw [this, hzero, show Array.range 0 = #[] from rfl]
    simp
  · rw [if_neg hzero]
    simp only [Sem.run_bind, hj.zero w, Sem.run_pure, Result.andThen_ok, run_newRow]
    rw [← hz, zeros_array]
end Go.Vx
namespace Go.Vx
open Go

/-- What is appended: m elements, their cells. -/
def Src (w : World) (size : Nat) (x : Value) (m : Nat) (news : List Value) : Prop :=
  (∃ a c, x = .slice a m c ∧ news.length = m * size ∧ (a = none → news = []) ∧ ∀ ad, a = some ad → cellsAt w ad news) ∨ (∃ l, x = str l ∧ size = 1 ∧ m = l.length ∧ news = l.map byt)

theorem run_src_len {P : Program} {w w' : World} {size m : Nat} {x : Value} {news : List Value} (h : Src w size x m news) : (Builtin.lenOf x).run P w' = .ok m w' := by
  rcases h with ⟨a, c, rfl, _⟩ | ⟨l, rfl, _, rfl, _⟩
  · rfl
  · simp [Builtin.lenOf, size_mk]

theorem cellsAt_drew {w : World} {a : Addr} {vs : List Value} (h : cellsAt w a vs) : cellsAt w.drew a vs := h

theorem run_src {P : Program} {w : World} {size m : Nat} {x : Value} {news : List Value} (h : Src w size x m news) : (Builtin.firstCells size m x).run P w = .ok news.toArray w := by
  rcases h with ⟨a, c, rfl, hl, h0, h1⟩ | ⟨l, rfl, rfl, rfl, rfl⟩
  · cases a with
    | none => rw [h0 rfl]; simp [Builtin.firstCells]
    | some ad => exact run_loadCells (h1 ad rfl) hl
  · have : (ByteArray.mk l.toArray).extract 0 l.length = ByteArray.mk l.toArray := by
      rw [ByteArray.extract_mk]; simp
    simp [Builtin.firstCells, this]

theorem Src.drew {w : World} {size m : Nat} {x : Value} {news : List Value} (h : Src w size x m news) : Src w.drew size x m news := h

def ap (e : TypeId) (size bytes : Nat) (zero : List Value) (s x : Value) (K : Value → World → Prop) (w : World) : Prop :=
  ∃ a n c m news, s = .slice a n c ∧ Src w size x m news ∧ news.length = m * size ∧ allOne news = true ∧ (n + m) * bytes ≤ 140737488355328 ∧ n + m ≤ 9223372036854775807 ∧
    (n + m ≤ c → (a = none ∧ K (.slice none (n + m) c) w) ∨
      (∃ b o cs t fr, a = some ⟨b, o, none⟩ ∧ w.heap[b]? = some (.cells cs t fr) ∧ (fr.1 = fr.2 ∨ o + (n + m) * size ≤ fr.1) ∧ o + (n + m) * size ≤ cs.size ∧
        K (.slice a (n + m) c) (setBlk w b (.cells (wr cs (o + n * size) news) t fr)))) ∧
    (c < n + m → ∃ olds, olds.length = n * size ∧ (a = none → olds = []) ∧ (∀ ad, a = some ad → cellsAt w ad olds) ∧
      ∀ c' w', n + m ≤ c' → w'.os = w.os → w'.tape = w.tape → w'.output = w.output → w'.heap = w.heap.push (.cells (olds ++ news ++ zerosV zero (c' - (n + m))).toArray e) →
        K (.slice (some ⟨w.heap.size, 0, none⟩) (n + m) c') w')

theorem zeroCells_eq (z : Array Value) (n : Nat) : Builtin.zeroCells z n = (zerosV z.toList n).toArray := by
  unfold Builtin.zeroCells
  exact zeros_array z n

theorem add_lit (b o k : Nat) : (⟨b, o, none⟩ : Addr).add k = ⟨b, o + k, none⟩ := add_plain b o k

def TyK.notInt : TyK → Bool
  | .slice _ | .str => true
  | _ => false

theorem so_ap {P : Program} {t t2 e ty : TypeId} {i i2 j : TI} (hi : i.ok P t) (hk : i.kind = .slice e) (hi2 : i2.ok P t2) (hk2 : i2.kind.notInt = true) (hj : j.ok P e) {s x : Value} {K : Value → World → Prop} {w : World}
    (h : ap e j.size j.bytes j.zero.cells.toList s x K w) : RunV P (Builtin.append_ #[t, t2] ty #[s, x]) w K := by
  obtain ⟨a, n, c, m, news, rfl, hsrc, hnl, hone, hb, h63, hin, hgrow⟩ := h
  obtain ⟨d, hd, _, f1⟩ := hi.under
  rw [hk] at f1
  simp only [TyK.fits] at f1
  subst f1
  obtain ⟨d2, hd2, _, f2⟩ := hi2.under
  have hni : (∃ e2, d2 = .slice e2) ∨ d2 = .string := by
    obtain ⟨kind, _, _, _⟩ := i2
    cases kind <;> simp [TyK.notInt] at hk2 <;> simp only [TyK.fits] at f2 <;> subst f2
    · exact .inr rfl
    · exact .inl ⟨_, rfl⟩
  obtain ⟨xi, hxi, hxs, hxb, hxz⟩ := hj.typeInfo
  have hlen : ∀ w', (Builtin.lenOf x).run P w' = .ok m w' := fun w' => run_src_len hsrc
  by_cases hc : n + m ≤ c
  · rcases hin hc with ⟨rfl, hK⟩ | ⟨b, o, cs, t', fr, rfl, hblk, hfr, hsz, hK⟩
    · refine ⟨_, w, ?_, hK⟩
      rcases hni with ⟨e2, rfl⟩ | rfl <;> simp [Builtin.append_, hd, hd2, hj.sizeOf w, hlen, hc, run_src hsrc]
    · refine ⟨_, _, ?_, hK⟩
      rw [Nat.add_mul] at hfr hsz
      have hst := run_storeCells (P := P) news w (o + n * j.size) 0 cs hblk (by rw [hnl]; omega) (by rw [hnl]; omega) hone
      simp only [Nat.add_zero] at hst
      rcases hni with ⟨e2, rfl⟩ | rfl <;> simp [Builtin.append_, hd, hd2, hj.sizeOf w, hlen, hc, run_src hsrc, add_plain, hst]
  · obtain ⟨olds, hol, ho0, ho1, hK⟩ := hgrow (by omega)
    have hfits := growslice_fits (need := n + m) (old := c) (bytes := j.bytes) (by omega) hb
    have hfits' : ¬ Builtin.nextslicecap (n + m) c * xi.bytes > 2 ^ 48 := by
      rw [hxb, show (2 : Nat) ^ 48 = 281474976710656 from by decide]; omega
    have hold : ∀ w' : World, w'.heap = w.heap → (Builtin.firstCells j.size n (.slice a n c)).run P w' = .ok olds.toArray w' := by
      intro w' hw'
      have hcell : ∀ ad, w'.cell? ad = w.cell? ad := fun ad => by simp [World.cell?, hw']
      cases a with
      | none => rw [ho0 rfl]; simp [Builtin.firstCells]
      | some ad => exact run_loadCells (fun q v hq => by rw [hcell]; exact ho1 ad rfl q v hq) hol
    have hroom : ∀ (q : Nat) (w' : World), (askRoom q).run P w' = .ok () w' := by
      intro q w'
      unfold askRoom
      split
      · simp [mark, Sem.run]
      · rfl
    have hcut : n + m ≤ grownCap w (n + m) c e := by simp [grownCap, Question.cut]
    have h63' : ¬ (((n + m : Nat) : Int) > IntKind.i64.max ∧ (False ∨ xi.bytes = 0)) := by
      rw [show IntKind.i64.max = 9223372036854775807 from rfl]; omega
    have hch : (choose (.appendCap (n + m) c e)).run P w = .ok (grownCap w (n + m) c e) w.drew := by
      simp [choose, Sem.run, Question.forced, grownCap]
    refine ⟨_, { (w.drew) with heap := w.heap.push (.cells (olds ++ news ++ zerosV j.zero.cells.toList (grownCap w (n + m) c e - (n + m))).toArray e) }, ?_, hK _ _ hcut rfl rfl rfl rfl⟩
    have hrow : ∀ (c : Array Value), (newRow e c).run P w.drew = .ok ⟨w.heap.size, 0, none⟩ { w.drew with heap := w.heap.push (.cells c e) } := fun c => run_newRow c e w.drew
    have hpre : (Builtin.append_ #[t, t2] ty #[.slice a n c, x]).run P w = (do
        askRoom (grownCap w (n + m) c e * xi.bytes)
        let old ← Builtin.firstCells j.size n (.slice a n c)
        let new ← Builtin.firstCells j.size m x
        let rest := Builtin.zeroCells (← zeroValue e).cells (grownCap w (n + m) c e - (n + m))
        pure (.slice (some (← newRow e (old ++ new ++ rest))) (n + m) (grownCap w (n + m) c e)) : Sem Value).run P w.drew := by
      rcases hni with ⟨e2, rfl⟩ | rfl
      all_goals
        unfold Builtin.append_
        simp only [List.getElem?_toArray, List.getElem?_cons_zero, List.getElem?_cons_succ, Sem.run_bind, hd, hd2, Result.andThen_ok, hj.sizeOf, Sem.run_pure, Bool.false_eq_true, if_false, hlen, if_neg hc, hxi, h63', hfits', hch, Bool.not_false, if_true]
    rw [hpre]
    simp only [Sem.run_bind, hroom, Result.andThen_ok, hold w.drew rfl, run_src (hsrc.drew), hj.zero, hrow, Sem.run_pure, zeroCells_eq]
    simp

/-- len of a string -/
def lnS (x : Value) (K : Value → World → Prop) (w : World) : Prop := ∃ l, x = str l ∧ K (.int .i64 (l.length : Int)) w
/-- len of a slice -/
def lnL (x : Value) (K : Value → World → Prop) (w : World) : Prop := ∃ a n c, x = .slice a n c ∧ K (.int .i64 (n : Int)) w
def cpL (x : Value) (K : Value → World → Prop) (w : World) : Prop := ∃ a n c, x = .slice a n c ∧ K (.int .i64 (c : Int)) w

theorem so_lnS {P : Program} {t ty : TypeId} {i : TI} (hi : i.ok P t) (hk : i.kind = .str) {x : Value} {K : Value → World → Prop} {w : World} (h : lnS x K w) : RunV P (Builtin.len_ #[t] ty #[x]) w K := by
  obtain ⟨l, rfl, hK⟩ := h
  obtain ⟨d, hd, _, f1⟩ := hi.under
  rw [hk] at f1
  simp only [TyK.fits] at f1
  subst f1
  exact ⟨_, w, by simp [Builtin.len_, hd, size_mk, goInt], hK⟩

theorem so_lnL {P : Program} {t e ty : TypeId} {i : TI} (hi : i.ok P t) (hk : i.kind = .slice e) {x : Value} {K : Value → World → Prop} {w : World} (h : lnL x K w) : RunV P (Builtin.len_ #[t] ty #[x]) w K := by
  obtain ⟨a, n, c, rfl, hK⟩ := h
  obtain ⟨d, hd, _, f1⟩ := hi.under
  rw [hk] at f1
  simp only [TyK.fits] at f1
  subst f1
  exact ⟨_, w, by simp [Builtin.len_, hd, goInt], hK⟩

end Go.Vx
namespace Go.Vx
open Go

theorem so_cpL {P : Program} {t e ty : TypeId} {i : TI} (hi : i.ok P t) (hk : i.kind = .slice e) {x : Value} {K : Value → World → Prop} {w : World} (h : cpL x K w) : RunV P (Builtin.cap_ #[t] ty #[x]) w K := by
  obtain ⟨a, n, c, rfl, hK⟩ := h
  obtain ⟨d, hd, _, f1⟩ := hi.under
  rw [hk] at f1
  simp only [TyK.fits] at f1
  subst f1
  exact ⟨_, w, by simp [Builtin.cap_, hd, goInt], hK⟩

/-- max, min of two whole numbers -/
def mxI (x y : Value) (K : Value → World → Prop) (w : World) : Prop := ∃ k a b, x = .int k a ∧ y = .int k b ∧ K (.int k (if a < b then b else a)) w
def mnI (x y : Value) (K : Value → World → Prop) (w : World) : Prop := ∃ k a b, x = .int k a ∧ y = .int k b ∧ K (.int k (if b < a then b else a)) w

theorem so_mxI {P : Program} {ts : Array TypeId} {ty : TypeId} {x y : Value} {K : Value → World → Prop} {w : World} (h : mxI x y K w) : RunV P (Builtin.max_ ts ty #[x, y]) w K := by
  obtain ⟨k, a, b, rfl, rfl, hK⟩ := h
  exact ⟨_, w, by simp [Builtin.max_, Builtin.max2], hK⟩

theorem so_mnI {P : Program} {ts : Array TypeId} {ty : TypeId} {x y : Value} {K : Value → World → Prop} {w : World} (h : mnI x y K w) : RunV P (Builtin.min_ ts ty #[x, y]) w K := by
  obtain ⟨k, a, b, rfl, rfl, hK⟩ := h
  exact ⟨_, w, by simp [Builtin.min_, Builtin.min2], hK⟩

/-- a value as an interface value -/
theorem so_mi {P : Program} {t : TypeId} {i : TI} (hi : i.ok P t) (hk : (match i.kind with | .iface | .other => false | _ => true) = true) {x : Value} {K : Value → World → Prop} {w : World} (h : K (.iface t x) w) : RunV P (Instr.makeInterface t x) w K := by
  obtain ⟨d, hd, _, f1⟩ := hi.under
  refine ⟨_, w, ?_, h⟩
  obtain ⟨kind, _, _, _⟩ := i
  cases kind <;> simp at hk <;> simp only [TyK.fits] at f1
  case struct => obtain ⟨_, rfl, _⟩ := f1; simp [Instr.makeInterface, hd]
  case func => obtain ⟨_, _, _, rfl⟩ := f1; simp [Instr.makeInterface, hd]
  all_goals (subst f1; simp [Instr.makeInterface, hd])

/-- bytes as a string -/
def cBS (x : Value) (K : Value → World → Prop) (w : World) : Prop :=
  ∃ a n c l, x = .slice a n c ∧ l.length = n ∧ (a = none → l = []) ∧ (∀ ad, a = some ad → cellsAt w ad (l.map byt)) ∧ K (str l) w

theorem so_cBS {P : Program} {s d e : TypeId} {i j m : TI} (hi : i.ok P s) (hj : j.ok P d) (hm : m.ok P e) (hk' : i.kind = .slice e) (hk : j.kind = .str) (hke : m.kind = .int .u8) {x : Value} {K : Value → World → Prop} {w : World} (h : cBS x K w) : RunV P (convert s d x) w K := by
  obtain ⟨a, n, c, l, rfl, hl, h0, h1, hK⟩ := h
  obtain ⟨d1, hd1, _, f1⟩ := hi.under
  obtain ⟨d2, hd2, _, f2⟩ := hj.under
  obtain ⟨d3, hd3, _, f3⟩ := hm.under
  rw [hk'] at f1; rw [hk] at f2; rw [hke] at f3
  simp only [TyK.fits] at f1 f2 f3
  subst f1 f2 f3
  refine ⟨_, w, ?_, hK⟩
  cases a with
  | none =>
    rw [h0 rfl]
    simp [convert, hd1, hd2, hd3, Conv.bytesToString]
    rfl
  | some ad =>
    have hc := run_loadCells (P := P) (h1 ad rfl) (n := n) (by simpa using hl)
    have key : ∀ (m : List UInt8) (acc : ByteArray), (forIn (m.map byt) acc (fun c s => (match c with
        | .int .u8 n => pure (ForInStep.yield (s.push (UInt8.ofNat n.toNat)))
        | _ => stuck "bytesToString: byte expected" : Sem (ForInStep ByteArray)))).run P w = .ok ⟨acc.data ++ m.toArray⟩ w := by
      intro m
      induction m with
      | nil => intro acc; simp
      | cons b m ih =>
        intro acc
        simp only [List.map_cons, List.forIn_cons, Sem.run_bind, Sem.run_pure, Result.andThen_ok]
        rw [ih]
        congr 2
        simp [ByteArray.push]
    have h2 := key l ByteArray.empty
    have h3 : (ByteArray.mk (ByteArray.empty.data ++ l.toArray)) = ByteArray.mk l.toArray := by
      congr 1
      show #[] ++ l.toArray = l.toArray
      simp
    rw [h3] at h2
    simp only [convert, Sem.run_bind, hd1, hd2, hd3, Result.andThen_ok, Conv.bytesToString, hc, List.forIn_toArray]
    have h4 : ∀ (f : Value → ByteArray → Sem (ForInStep ByteArray)), (∀ c s, (f c s) = (match c with
        | .int .u8 n => pure (ForInStep.yield (s.push (UInt8.ofNat n.toNat)))
        | _ => stuck "bytesToString: byte expected" : Sem (ForInStep ByteArray))) → (forIn (l.map byt) ByteArray.empty f).run P w = .ok ⟨l.toArray⟩ w := by
      intro f hf
      have : f = _ := funext fun c => funext fun s => hf c s
      rw [this]
      exact h2
    rw [h4]
    · rfl
    · intro c s
      cases c <;> first | rfl | (rename_i k n; cases k <;> rfl)

/-- a range over a string -/
def rgS (x : Value) (K : Value → World → Prop) (w : World) : Prop := ∃ l, x = str l ∧ K (ptr w.heap.size 0) { w with heap := w.heap.push (.stringIter ⟨l.toArray⟩ 0) }

theorem so_rgS {P : Program} {t : TypeId} {i : TI} (hi : i.ok P t) (hk : i.kind = .str) {x : Value} {K : Value → World → Prop} {w : World} (h : rgS x K w) : RunV P (Instr.range t x) w K := by
  obtain ⟨l, rfl, hK⟩ := h
  obtain ⟨d, hd, _, f1⟩ := hi.under
  rw [hk] at f1
  simp only [TyK.fits] at f1
  subst f1
  refine ⟨_, _, ?_, hK⟩
  simp [Instr.range, hd, newObj, Sem.run, World.alloc, -World.alloc_eq]

/-- its next step -/
def nxS (x : Value) (K : Value → World → Prop) (w : World) : Prop :=
  ∃ b s pos, x = ptr b 0 ∧ w.heap[b]? = some (.stringIter s pos) ∧
    (pos < s.size → K (.tuple #[.bool true, .int .i64 (pos : Int), .int .i32 ((Utf8.decode s pos).1 : Int)]) (setBlk w b (.stringIter s (pos + (Utf8.decode s pos).2)))) ∧
    (s.size ≤ pos → K (.tuple #[.bool false]) w)

theorem so_nxS {P : Program} {ty : TypeId} {x : Value} {K : Value → World → Prop} {w : World} (h : nxS x K w) : RunV P (Instr.next x true ty) w K := by
  obtain ⟨b, s, pos, rfl, hb, h1, h2⟩ := h
  by_cases hp : pos < s.size
  · refine ⟨_, _, ?_, h1 hp⟩
    simp [Instr.next, getObj, setObj, Sem.run, hb, hp, goInt, setBlk]
  · refine ⟨_, _, ?_, h2 (by omega)⟩
    simp [Instr.next, getObj, Sem.run, hb, hp]
end Go.Vx
namespace Go.Vx
open Go

/-! ### What is known of a slot -/
inductive EV where
  | v (x : Value)
  | b (x : Bool)
  | u

def EV.val : EV → Value
  | .v x => x
  | .b x => .bool x
  | .u => undef

abbrev Env := List (Nat × EV)

def Env.get : Env → Nat → Option EV
  | [], _ => none
  | (k, x) :: e, t => match Nat.beq k t with | true => some x | false => Env.get e t

def ev (e : Env) : Operand → Option EV
  | .tmp t => e.get t
  | .const (.bool x) => some (.b x)
  | .const v => some (.v v)
  | .global g => some (.v (.pointer (some ⟨g, 0, none⟩)))
  | .func f => some (.v (.func (.func f) #[] #[]))

/-- The value of an operand (.. of one that is not known: nothing that can be used). -/
def va (e : Env) (x : Operand) : Option Value := (ev e x).map EV.val

def vas (e : Env) : List Operand → Option (List Value)
  | [] => some []
  | x :: l => match va e x, vas e l with
    | some v, some vs => some (v :: vs)
    | _, _ => none

def Agree (a : Act) (e : Env) : Prop := ∀ t x, e.get t = some x → a.tmps[t]? = some x.val

theorem Agree.ev {a : Act} {e : Env} (h : Agree a e) {x : Operand} {y : EV} (hx : ev e x = some y) : a.eval x = y.val := by
  cases x with
  | tmp t => have := h t y hx; simp [Act.eval, this]
  | const v =>
    cases v <;> simp only [Vx.ev, Option.some.injEq] at hx <;> subst hx <;> rfl
  | global g => simp only [Vx.ev, Option.some.injEq] at hx; subst hx; rfl
  | func f => simp only [Vx.ev, Option.some.injEq] at hx; subst hx; rfl

theorem Agree.va {a : Act} {e : Env} (h : Agree a e) {x : Operand} {v : Value} (hx : va e x = some v) : a.eval x = v := by
  simp only [Vx.va, Option.map_eq_some_iff] at hx
  obtain ⟨y, hy, rfl⟩ := hx
  exact h.ev hy

theorem Agree.vas {a : Act} {e : Env} (h : Agree a e) : ∀ {l : List Operand} {vs : List Value}, vas e l = some vs → l.map a.eval = vs := by
  intro l
  induction l with
  | nil => intro vs hv; simp only [Vx.vas, Option.some.injEq] at hv; subst hv; rfl
  | cons x l ih =>
    intro vs hv
    simp only [Vx.vas] at hv
    split at hv
    · rename_i v vs' h1 h2
      simp only [Option.some.injEq] at hv
      subst hv
      simp [h.va h1, ih h2]
    · simp at hv

theorem Agree.put {a : Act} {e : Env} (h : Agree a e) {d : Nat} (hd : d < a.tmps.size) (x : EV) : Agree (a.put (some d) x.val) ((d, x) :: e) := by
  intro t y hy
  simp only [Env.get] at hy
  split at hy
  · rename_i hb
    have : d = t := Nat.eq_of_beq_eq_true hb
    subst this
    injection hy with hy
    subst hy
    simp [Act.put, hd]
  · rename_i hb
    have hne : d ≠ t := by intro e; subst e; simp at hb
    have := h t y hy
    simp [Act.put, Array.getElem?_setIfInBounds_ne hne, this]

theorem size_put (a : Act) (d : Option Tmp) (v : Value) : (a.put d v).tmps.size = a.tmps.size := by
  cases d <;> simp [Act.put]

/-! ### Calls -/
def Enter (P : Program) (g : FuncId) : Prop := ∃ fn, P.funcs[g]? = some fn ∧ (fn.name == "runtime.NumGoroutine") = false ∧ fn.body.isNone = false

theorem Enter.run {P : Program} {g : FuncId} (h : Enter P g) (args : Array Value) (w : World) : (callFunc g args).run P w = .ok (.enter g args) w := by
  obtain ⟨fn, h1, h2, h3⟩ := h
  have e : (callFunc g args).run P w = (match P.funcs[g]? with
    | none => (stuck "call: no such function" : Sem Next)
    | some fn =>
      if fn.name == "runtime.NumGoroutine" then pure .numGoroutine
      else if fn.body.isNone then do
        mark (.extern g)
        if let some e := Extern.findNext fn then return ← e args
        match Extern.find fn with
        | some e => pure (.value (← e args))
        | none =>
          if fn.name.endsWith ".init" && !fn.name.startsWith "(" && !fn.name.startsWith "gosem." then pure (.value (.tuple #[]))
          else unsupported (.extern fn.name)
      else pure (.enter g args)).run P w := rfl
  rw [e]
  simp only [h1, h2, h3, Bool.false_eq_true, if_false]
  rfl

/-- How a call comes back. -/
def back (K : Value → World → Prop) (kp : List PanicEntry → World → Prop) : Ending → World → Prop
  | .returned v, w => K v w
  | .panicked ch, w => kp ch w
  | .outgrown, _ => False

def Tr (P : Program) (g : FuncId) (args : List Value) (w : World) (R : Ending → World → Prop) : Prop :=
  (Enter P g ∧ Calls P g args.toArray w R) ∨ (∃ v w', (callFunc g args.toArray).run P w = .ok (.value v) w' ∧ R (.returned v) w')

def cl (P : Program) (g : FuncId) (args : List Value) (K : Value → World → Prop) (kp : List PanicEntry → World → Prop) (w : World) : Prop := Tr P g args w (back K kp)

/-- The fence that lets everything in; of a function's frame, or of a round's. -/
def fe (r : Option Nat) : Fence := { Fence.wide with round := r }

/-- A round of a loop over a function: a call of its yield. -/
def Yl (P : Program) (l : Nat) (args : List Value) (w : World) (R : Ending → World → Prop) : Prop :=
  ∃ fn tmps assign body, (Instr.yield l args.toArray).run P w = .ok (.round l fn tmps assign body) w ∧ RoundIn Fence.wide 0 P l fn tmps assign body w R

/-- A call of a function value. -/
def clv (P : Program) (f : Value) (args : List Value) (K : Value → World → Prop) (kp : List PanicEntry → World → Prop) (w : World) : Prop :=
  (∃ g first cap, f = .func (.func g) first cap ∧ Tr P g (first.toList ++ args ++ cap.toList) w (back K kp)) ∨
  (∃ l, f = .func (.yield l) #[] #[] ∧ Yl P l args w (back K kp))

theorem Tr.mono {P : Program} {g : FuncId} {args : List Value} {w : World} {R R' : Ending → World → Prop} (h : Tr P g args w R) (hr : ∀ e w, R e w → R' e w) : Tr P g args w R' := by
  rcases h with ⟨h1, h2⟩ | ⟨v, w', h1, h2⟩
  · exact .inl ⟨h1, h2.mono hr⟩
  · exact .inr ⟨v, w', h1, hr _ _ h2⟩

def pn (x : Value) (kp : List PanicEntry → World → Prop) (w : World) : Prop := ∃ t v, x = .iface t v ∧ kp [{ v := x, recovered := false }] w

/-- What the model does, in its own words. -/
def rx (P : Program) (s : Sem Value) (K : Value → World → Prop) (w : World) : Prop := RunV P s w K
/-- The same, of what neither looks at the world nor changes it. -/
def rV (P : Program) (s : Sem Value) (K : Value → World → Prop) (w : World) : Prop := ∃ v, (∀ w', s.run P w' = .ok v w') ∧ K v w
def eqRun (op : BinOp) (t : TypeId) (ox oy : Operand) (x y : Value) : Sem Value := do eqGuard op t ox oy x y; binOp op t x y

theorem rV.runV {P : Program} {s : Sem Value} {K : Value → World → Prop} {w : World} (h : rV P s K w) : RunV P s w K := by
  obtain ⟨v, h1, h2⟩ := h
  exact ⟨v, w, h1 w, h2⟩

def nilOp : Operand → Bool
  | .const (.pointer none) => true
  | _ => false

/-! ### One operation -/
section
variable (P : Program) (T : Tab) (e : Env)

def vcBin (op : BinOp) (t : TypeId) (x y : Operand) (K : Value → World → Prop) (w : World) : Prop :=
  match T.get t, va e x, va e y with
  | some i, some a, some b =>
    match i.kind with
    | .int k => match shiftB op with | true => bH op k a b K w | false => bI op k a b K w
    | .str => bS op a b K w
    | .bool => bB op a b K w
    | .ptr q => (match nilOp y with | true => bN op (.ptr q) a b K w | false => rV P (eqRun op t x y a b) K w)
    | .struct _ => rV P (eqRun op t x y a b) K w
    | .iface => rV P (eqRun op t x y a b) K w
    | .slice q => bN op (.slice q) a b K w
    | .map q r => bN op (.map q r) a b K w
    | .func => bN op .func a b K w
    | _ => False
  | _, _, _ => False

def vcConv (s d : TypeId) (x : Operand) (K : Value → World → Prop) (w : World) : Prop :=
  match T.get s, T.get d, va e x with
  | some i, some j, some a =>
    match i.kind, j.kind with
    | .int _, .int k => cI k a K w
    | .str, .str => cS a K w
    | .str, .slice q => (match T.get q with | some m => (match m.kind with | .int .u8 => cSB q a K w | _ => False) | none => False)
    | .slice q, .str => (match T.get q with | some m => (match m.kind with | .int .u8 => cBS a K w | _ => False) | none => False)
    | .ptr _, .other => rx P (convert s d a) K w
    | .other, .ptr _ => rx P (convert s d a) K w
    | _, _ => False
  | _, _, _ => False

/-- The sizes of a struct's fields. -/
def szs : List (Nat × TypeId) → Option (List Nat)
  | [] => some []
  | (_, t) :: l => match T.get t, szs l with
    | some i, some s => some (i.size :: s)
    | _, _ => none

/-- A literal's parts: place, size, value. -/
def bparts (fs : List (Nat × TypeId)) (sz : List Nat) : List (Nat × Operand) → Option (List (Nat × Nat × Value))
  | [] => some []
  | (f, x) :: l => match fs[f]?, sz[f]?, va e x, bparts fs sz l with
    | some (off, _), some s, some v, some r => some ((off, s, v) :: r)
    | _, _, _, _ => none

def sparts (size : Nat) : List (Nat × Operand) → Option (List (Nat × Nat × Value))
  | [] => some []
  | (f, x) :: l => match va e x, sparts size l with
    | some v, some r => some ((f * size, size, v) :: r)
    | _, _ => none

def vcBuild (t : TypeId) (parts : List (Nat × Operand)) (K : Value → World → Prop) (w : World) : Prop :=
  match T.get t with
  | some i => match i.kind with
    | .struct fs => match szs T fs with
      | some sz => match bparts e fs sz parts with
        | some ps => bd i.zero.cells.toList ps K w
        | none => False
      | none => False
    | .array _ q => match T.get q with
      | some j => match sparts e j.size parts with
        | some ps => bd i.zero.cells.toList ps K w
        | none => False
      | none => False
    | _ => False
  | none => False

def vcBuildSlice (t : TypeId) (n : Nat) (parts : List (Nat × Operand)) (K : Value → World → Prop) (w : World) : Prop :=
  match T.get t with
  | some i => match i.kind with
    | .slice q => match T.get q with
      | some j => match sparts e j.size parts, Nat.beq j.zero.cells.size j.size, Nat.ble (n * j.size) 16777216 with
        | some ps, true, true => bs q j.zero.cells.toList n ps K w
        | _, _, _ => False
      | none => False
    | _ => False
  | none => False

def vcSlice (t : TypeId) (x : Operand) (lo hi mx : Option Operand) (K : Value → World → Prop) (w : World) : Prop :=
  let o (x : Option Operand) : Option (Option Value) := match x with | none => some none | some y => (va e y).map some
  match T.get t, va e x, o lo, o hi, o mx with
  | some i, some a, some l, some h, some m =>
    match i.kind with
    | .str => match m with | none => slS a l h K w | some _ => False
    | .slice q => match T.get q with | some j => slL j.size a l h m K w | none => False
    | .array n q => match T.get q with | some j => slA n j.size a l h m K w | none => False
    | _ => False
  | _, _, _, _, _ => False

def vcAppend (ts : List TypeId) (args : List Operand) (K : Value → World → Prop) (w : World) : Prop :=
  match ts, args with
  | [t, t2], [s, x] => match T.get t, T.get t2, va e s, va e x with
    | some i, some i2, some a, some b => match i.kind, i2.kind.notInt with
      | .slice q, true => match T.get q with | some j => ap q j.size j.bytes j.zero.cells.toList a b K w | none => False
      | _, _ => False
    | _, _, _, _ => False
  | _, _ => False

def vcLen (ts : List TypeId) (args : List Operand) (K : Value → World → Prop) (w : World) : Prop :=
  match ts, args with
  | [t], [x] => match T.get t, va e x with
    | some i, some a => match i.kind with
      | .str => lnS a K w
      | .slice _ => lnL a K w
      | _ => False
    | _, _ => False
  | _, _ => False

def vcCap (ts : List TypeId) (args : List Operand) (K : Value → World → Prop) (w : World) : Prop :=
  match ts, args with
  | [t], [x] => match T.get t, va e x with
    | some i, some a => match i.kind with
      | .slice _ => cpL a K w
      | _ => False
    | _, _ => False
  | _, _ => False

def vcMax (big : Bool) (args : List Operand) (K : Value → World → Prop) (w : World) : Prop :=
  match args with
  | [x, y] => match va e x, va e y with
    | some a, some b => match big with | true => mxI a b K w | false => mnI a b K w
    | _, _ => False
  | _ => False

def vcCall (ty : TypeId) (c : Call) (K : Value → World → Prop) (kp : List PanicEntry → World → Prop) (w : World) : Prop :=
  match c.callee with
  | .value (.func g) => match vas e c.args.toList with | some vs => cl P g vs K kp w | none => False
  | .value x => match va e x, vas e c.args.toList with | some f, some vs => clv P f vs K kp w | _, _ => False
  | .builtin .len => vcLen T e c.argTypes.toList c.args.toList K w
  | .builtin .cap => vcCap T e c.argTypes.toList c.args.toList K w
  | .builtin .append => vcAppend T e c.argTypes.toList c.args.toList K w
  | .builtin .max => vcMax e true c.args.toList K w
  | .builtin .min => vcMax e false c.args.toList K w
  | .builtin .unsafeSliceData => match vas e c.args.toList with | some vs => rx P (Builtin.unsafeSliceData_ c.argTypes ty vs.toArray) K w | none => False
  | .builtin .unsafeString => match vas e c.args.toList with | some vs => rx P (Builtin.unsafeString_ c.argTypes ty vs.toArray) K w | none => False
  | .builtin .copy => match vas e c.args.toList with | some vs => rx P (Builtin.copy_ c.argTypes ty vs.toArray) K w | none => False
  | _ => False

def vcFieldAddr (t : TypeId) (x : Operand) (f : Nat) (K : Value → World → Prop) (w : World) : Prop :=
  match T.get t, va e x with
  | some i, some a => match i.kind with
    | .struct fs => match fs[f]? with
      | some (off, q) => match T.get q with | some j => (match Nat.beq j.size 0 with | false => fa off a K w | true => False) | none => False
      | none => False
    | _ => False
  | _, _ => False

def vcField (t : TypeId) (x : Operand) (f : Nat) (K : Value → World → Prop) (w : World) : Prop :=
  match T.get t, va e x with
  | some i, some a => match i.kind with
    | .struct fs => match fs[f]? with
      | some (off, q) => match T.get q with | some j => fl j.kind.agg j.size off a K w | none => False
      | none => False
    | _ => False
  | _, _ => False

def vcIndexAddr (t : TypeId) (x y : Operand) (K : Value → World → Prop) (w : World) : Prop :=
  match T.get t, va e x, va e y with
  | some i, some a, some b => match i.kind with
    | .slice q => match T.get q with | some j => ia j.size a b K w | none => False
    | .array n q => match T.get q with | some j => iar n j.size a b K w | none => False
    | _ => False
  | _, _, _ => False

def vcIndex (t : TypeId) (x y : Operand) (K : Value → World → Prop) (w : World) : Prop :=
  match T.get t, va e x, va e y with
  | some i, some a, some b => match i.kind with
    | .str => ix a b K w
    | _ => False
  | _, _, _ => False

def vcOp (o : Oper) (K : EV → World → Prop) (kp : List PanicEntry → World → Prop) (w : World) : Prop :=
  let KV : Value → World → Prop := fun v => K (.v v)
  match o.op with
  | .move x | .assign x => match ev e x with | some v => K v w | none => False
  | .pick c a b => match ev e c, ev e a, ev e b with
    | some (.b true), some x, _ => K x w
    | some (.b false), _, some y => K y w
    | some (.v c), some x, some y => pk c x.val y.val KV w
    | _, _, _ => False
  | .alloc t => match T.get t with | some i => al i.zero.cells.toList t KV w | none => False
  | .box t x => match va e x with | some v => al v.cells.toList t KV w | none => False
  | .build t ps => vcBuild T e t ps.toList KV w
  | .buildSlice t n ps => vcBuildSlice T e t n ps.toList KV w
  | .load t a => match T.get t, va e a with
    | some i, some x => match i.kind.agg with | true => ldn i.size x KV w | false => ld x KV w
    | _, _ => False
  | .store t a x => match T.get t, va e a, va e x with
    | some i, some p, some v => st i.size p v (fun w' => K .u w') w
    | _, _, _ => False
  | .nilCheck x => match va e x with | some v => nc v KV w | none => False
  | .binOp op t x y _ => vcBin P T e op t x y KV w
  | .unOp .not _ x => match va e x with | some v => uN v KV w | none => False
  | .unOp .neg _ x => match va e x with | some v => uM v KV w | none => False
  | .convert s d x => vcConv P T e s d x KV w
  | .makeInterface t x => match T.get t, va e x with
    | some i, some v => (match i.kind with | .iface | .other => False | _ => KV (.iface t v) w)
    | _, _ => False
  | .makeFunc fn first cap => match vas e first.toList, vas e cap.toList with
    | some a, some b => KV (.func fn a.toArray b.toArray) w
    | _, _ => False
  | .makeSlice t l c => match T.get t, va e l, va e c with
    | some i, some a, some b => (match i.kind with
      | .slice q => (match T.get q with | some j => (match Nat.beq j.zero.cells.size j.size with | true => mk q j.bytes j.zero.cells.toList a b KV w | false => False) | none => False)
      | _ => False)
    | _, _, _ => False
  | .slice t x lo hi mx => vcSlice T e t x lo hi mx KV w
  | .fieldAddr t x f => vcFieldAddr T e t x f KV w
  | .field t x f => vcField T e t x f KV w
  | .indexAddr t x i => vcIndexAddr T e t x i KV w
  | .index t x i => vcIndex T e t x i KV w
  | .range t x => match T.get t, va e x with
    | some i, some v => (match i.kind with | .str => rgS v KV w | _ => False)
    | _, _ => False
  | .next x true => match va e x with | some v => nxS v KV w | none => False
  | .extract x i => match va e x with | some v => ex v i KV w | none => False
  | .call c => vcCall P T e o.type c KV kp w
  | .typeAssert x xt t ok => match va e x with | some v => rV P (Instr.typeAssert v xt t ok) KV w | none => False
  | .panic x => match va e x with | some v => pn v kp w | none => False
  | _ => False
end
end Go.Vx
namespace Go.Vx
open Go
section
variable {P : Program} {T : Tab} {e : Env} {a : Act}

theorem vcBin_ok (hT : Tab.ok P T) (hA : Agree a e) {op : BinOp} {t : TypeId} {x y : Operand} {K : Value → World → Prop} {w : World} (h : vcBin P T e op t x y K w) :
    RunV P (do eqGuard op t x y (a.eval x) (a.eval y); binOp op t (a.eval x) (a.eval y)) w K := by
  unfold vcBin at h
  split at h
  · rename_i i u v h1 h2 h3
    have hi := hT.get_ok h1
    rw [hA.va h2, hA.va h3]
    split at h
    · split at h
      · rename_i hs; exact so_bH hs h
      · exact so_bI h
    · exact so_bS h
    · rename_i hk; exact so_bB hi hk h
    · rename_i hk
      split at h
      · exact so_bN hi (by rw [hk]; exact h)
      · exact rV.runV h
    · exact rV.runV h
    · exact rV.runV h
    · rename_i hk; exact so_bN hi (by rw [hk]; exact h)
    · rename_i hk; exact so_bN hi (by rw [hk]; exact h)
    · rename_i hk; exact so_bN hi (by rw [hk]; exact h)
    · exact h.elim
  · exact h.elim

theorem vcConv_ok (hT : Tab.ok P T) (hA : Agree a e) {s d : TypeId} {x : Operand} {K : Value → World → Prop} {w : World} (h : vcConv P T e s d x K w) : RunV P (convert s d (a.eval x)) w K := by
  unfold vcConv at h
  split at h
  · rename_i i j u h1 h2 h3
    have hi := hT.get_ok h1
    have hj := hT.get_ok h2
    rw [hA.va h3]
    split at h
    · rename_i k1 k2; exact so_cI hi hj k1 k2 h
    · rename_i k1 k2; exact so_cS hi hj k1 k2 h
    · rename_i q k1 k2
      split at h
      · rename_i m hm
        split at h
        · rename_i k3; exact so_cSB hi hj (hT.get_ok hm) k1 k2 k3 h
        · exact h.elim
      · exact h.elim
    · rename_i q k1 k2
      split at h
      · rename_i m hm
        split at h
        · rename_i k3; exact so_cBS hi hj (hT.get_ok hm) k1 k2 k3 h
        · exact h.elim
      · exact h.elim
    · exact h
    · exact h
    · exact h.elim
  · exact h.elim

theorem szs_ok (hT : Tab.ok P T) : ∀ {fs : List (Nat × TypeId)} {sz : List Nat}, szs T fs = some sz → fieldsOk P fs sz := by
  intro fs
  induction fs with
  | nil => intro sz h; simp only [szs, Option.some.injEq] at h; subst h; exact ⟨rfl, fun j off t hj => by simp at hj⟩
  | cons p fs ih =>
    intro sz h
    obtain ⟨off0, t0⟩ := p
    simp only [szs] at h
    split at h
    · rename_i i s h1 h2
      simp only [Option.some.injEq] at h
      subst h
      obtain ⟨hl, hf⟩ := ih h2
      refine ⟨by simp [hl], fun j off t hj => ?_⟩
      cases j with
      | zero =>
        simp only [List.getElem?_cons_zero, Option.some.injEq, Prod.mk.injEq] at hj
        obtain ⟨rfl, rfl⟩ := hj
        exact ⟨i, hT.get_ok h1, rfl⟩
      | succ j => exact hf j off t (by simpa using hj)
    · simp at h

theorem bparts_ok (hA : Agree a e) {fs : List (Nat × TypeId)} {sz : List Nat} : ∀ {parts : List (Nat × Operand)} {ps : List (Nat × Nat × Value)}, bparts e fs sz parts = some ps →
    ps.length = parts.length ∧ ∀ (j f : Nat) (v : Value), (parts.map fun p => (p.1, a.eval p.2))[j]? = some (f, v) → ∃ off size ty, fs[f]? = some (off, ty) ∧ sz[f]? = some size ∧ ps[j]? = some (off, size, v) := by
  intro parts
  induction parts with
  | nil => intro ps h; simp only [bparts, Option.some.injEq] at h; subst h; exact ⟨rfl, fun j f v hj => by simp at hj⟩
  | cons p parts ih =>
    intro ps h
    obtain ⟨f0, x0⟩ := p
    simp only [bparts] at h
    split at h
    · rename_i off ty s v r h1 h2 h3 h4
      simp only [Option.some.injEq] at h
      subst h
      obtain ⟨hl, hf⟩ := ih h4
      refine ⟨by simp [hl], fun j f v' hj => ?_⟩
      cases j with
      | zero =>
        simp only [List.map_cons, List.getElem?_cons_zero, Option.some.injEq, Prod.mk.injEq] at hj
        obtain ⟨rfl, rfl⟩ := hj
        exact ⟨off, s, ty, h1, h2, by simp [hA.va h3]⟩
      | succ j => simpa using hf j f v' (by simpa using hj)
    · simp at h

theorem sparts_ok (hA : Agree a e) {size : Nat} : ∀ {parts : List (Nat × Operand)} {ps : List (Nat × Nat × Value)}, sparts e size parts = some ps →
    ps.length = parts.length ∧ ∀ (j f : Nat) (v : Value), (parts.map fun p => (p.1, a.eval p.2))[j]? = some (f, v) → ps[j]? = some (f * size, size, v) := by
  intro parts
  induction parts with
  | nil => intro ps h; simp only [sparts, Option.some.injEq] at h; subst h; exact ⟨rfl, fun j f v hj => by simp at hj⟩
  | cons p parts ih =>
    intro ps h
    obtain ⟨f0, x0⟩ := p
    simp only [sparts] at h
    split at h
    · rename_i v r h3 h4
      simp only [Option.some.injEq] at h
      subst h
      obtain ⟨hl, hf⟩ := ih h4
      refine ⟨by simp [hl], fun j f v' hj => ?_⟩
      cases j with
      | zero =>
        simp only [List.map_cons, List.getElem?_cons_zero, Option.some.injEq, Prod.mk.injEq] at hj
        obtain ⟨rfl, rfl⟩ := hj
        simp [hA.va h3]
      | succ j => simpa using hf j f v' (by simpa using hj)
    · simp at h

theorem vcBuild_ok (hT : Tab.ok P T) (hA : Agree a e) {t : TypeId} {parts : Array (Nat × Operand)} {K : Value → World → Prop} {w : World} (h : vcBuild T e t parts.toList K w) :
    RunV P (Instr.build t (parts.map fun (i, x) => (i, a.eval x))) w K := by
  unfold vcBuild at h
  split at h
  · rename_i i h1
    split at h
    · rename_i fs hk
      split at h
      · rename_i sz hsz
        split at h
        · rename_i ps hps
          obtain ⟨hl, hf⟩ := bparts_ok hA hps
          refine so_bd (hT.get_ok h1) hk (szs_ok hT hsz) (by simpa using hl) (fun j f v hj => hf j f v ?_) h
          rw [← hj]; simp
        · exact h.elim
      · exact h.elim
    · rename_i n q hk
      split at h
      · rename_i j hj
        split at h
        · rename_i ps hps
          obtain ⟨hl, hf⟩ := sparts_ok hA hps
          refine so_bda (hT.get_ok h1) hk (hT.get_ok hj) (by simpa using hl) (fun j f v hj => hf j f v ?_) h
          rw [← hj]; simp
        · exact h.elim
      · exact h.elim
    · exact h.elim
  · exact h.elim

theorem vcBuildSlice_ok (hT : Tab.ok P T) (hA : Agree a e) {t : TypeId} {n : Nat} {parts : Array (Nat × Operand)} {K : Value → World → Prop} {w : World} (h : vcBuildSlice T e t n parts.toList K w) :
    RunV P (Instr.buildSlice t n (parts.map fun (i, x) => (i, a.eval x))) w K := by
  unfold vcBuildSlice at h
  split at h
  · rename_i i h1
    split at h
    · rename_i q hk
      split at h
      · rename_i j h2
        split at h
        · rename_i ps hps hz hn
          obtain ⟨hl, hf⟩ := sparts_ok hA hps
          refine so_bs (hT.get_ok h1) hk (hT.get_ok h2) (Nat.eq_of_beq_eq_true hz) (Nat.le_of_ble_eq_true hn) (by simpa using hl) (fun j f v hj => hf j f v ?_) h
          rw [← hj]; simp
        · exact h.elim
      · exact h.elim
    · exact h.elim
  · exact h.elim

theorem vcSlice_ok (hT : Tab.ok P T) (hA : Agree a e) {t : TypeId} {x : Operand} {lo hi mx : Option Operand} {K : Value → World → Prop} {w : World} (h : vcSlice T e t x lo hi mx K w) :
    RunV P (Instr.sliceAt t (a.eval x) (lo.map a.eval) (hi.map a.eval) (mx.map a.eval)) w K := by
  have hm : ∀ {o : Option Operand} {r : Option Value}, (match o with | none => some none | some y => (va e y).map some) = some r → o.map a.eval = r := by
    intro o r ho
    cases o with
    | none => simpa using ho
    | some y =>
      simp only [Option.map_eq_some_iff] at ho
      obtain ⟨v, hv, rfl⟩ := ho
      simp [hA.va hv]
  unfold vcSlice at h
  simp only at h
  split at h
  · rename_i i u l hh m h1 h2 h3 h4 h5
    rw [hA.va h2, hm h3, hm h4, hm h5]
    split at h
    · rename_i hk
      split at h
      · exact so_slS (hT.get_ok h1) hk h
      · exact h.elim
    · rename_i q hk
      split at h
      · rename_i j h6; exact so_slL (hT.get_ok h1) hk (hT.get_ok h6) h
      · exact h.elim
    · rename_i n q hk
      split at h
      · rename_i j h6; exact so_slA (hT.get_ok h1) hk (hT.get_ok h6) h
      · exact h.elim
    · exact h.elim
  · exact h.elim

theorem list2 {α : Type} {l : Array α} {x y : α} (h : l.toList = [x, y]) : l = #[x, y] := by apply Array.ext'; simpa using h
theorem list1 {α : Type} {l : Array α} {x : α} (h : l.toList = [x]) : l = #[x] := by apply Array.ext'; simpa using h

theorem vcAppend_ok (hT : Tab.ok P T) (hA : Agree a e) {ts : Array TypeId} {args : Array Operand} {ty : TypeId} {K : Value → World → Prop} {w : World} (h : vcAppend T e ts.toList args.toList K w) :
    RunV P (Builtin.append_ ts ty (args.map a.eval)) w K := by
  unfold vcAppend at h
  split at h
  · rename_i t t2 s x e1 e2
    rw [list2 e1, list2 e2]
    split at h
    · rename_i i i2 u v h1 h2 h3 h4
      split at h
      · rename_i q hk hn
        split at h
        · rename_i j h5
          have := so_ap (ty := ty) (hT.get_ok h1) hk (hT.get_ok h2) hn (hT.get_ok h5) h
          simpa [hA.va h3, hA.va h4] using this
        · exact h.elim
      · exact h.elim
    · exact h.elim
  · exact h.elim

theorem vcLen_ok (hT : Tab.ok P T) (hA : Agree a e) {ts : Array TypeId} {args : Array Operand} {ty : TypeId} {K : Value → World → Prop} {w : World} (h : vcLen T e ts.toList args.toList K w) :
    RunV P (Builtin.len_ ts ty (args.map a.eval)) w K := by
  unfold vcLen at h
  split at h
  · rename_i t x e1 e2
    rw [list1 e1, list1 e2]
    split at h
    · rename_i i u h1 h2
      split at h
      · rename_i hk; simpa [hA.va h2] using so_lnS (ty := ty) (hT.get_ok h1) hk h
      · rename_i hk; simpa [hA.va h2] using so_lnL (ty := ty) (hT.get_ok h1) hk h
      · exact h.elim
    · exact h.elim
  · exact h.elim

theorem vcCap_ok (hT : Tab.ok P T) (hA : Agree a e) {ts : Array TypeId} {args : Array Operand} {ty : TypeId} {K : Value → World → Prop} {w : World} (h : vcCap T e ts.toList args.toList K w) :
    RunV P (Builtin.cap_ ts ty (args.map a.eval)) w K := by
  unfold vcCap at h
  split at h
  · rename_i t x e1 e2
    rw [list1 e1, list1 e2]
    split at h
    · rename_i i u h1 h2
      split at h
      · rename_i hk; simpa [hA.va h2] using so_cpL (ty := ty) (hT.get_ok h1) hk h
      · exact h.elim
    · exact h.elim
  · exact h.elim

theorem vcMax_ok (hA : Agree a e) {args : Array Operand} {K : Value → World → Prop} {w : World} (h : vcMax e true args.toList K w) (ts : Array TypeId) (ty : TypeId) :
    RunV P (Builtin.max_ ts ty (args.map a.eval)) w K := by
  unfold vcMax at h
  split at h
  · rename_i x y e1
    rw [list2 e1]
    split at h
    · rename_i u v h1 h2
      simpa [hA.va h1, hA.va h2] using so_mxI (P := P) (ts := ts) (ty := ty) h
    · exact h.elim
  · exact h.elim

theorem vcMin_ok (hA : Agree a e) {args : Array Operand} {K : Value → World → Prop} {w : World} (h : vcMax e false args.toList K w) (ts : Array TypeId) (ty : TypeId) :
    RunV P (Builtin.min_ ts ty (args.map a.eval)) w K := by
  unfold vcMax at h
  split at h
  · rename_i x y e1
    rw [list2 e1]
    split at h
    · rename_i u v h1 h2
      simpa [hA.va h1, hA.va h2] using so_mnI (P := P) (ts := ts) (ty := ty) h
    · exact h.elim
  · exact h.elim

theorem wp_of_runV {r : Option Nat} {o : Oper} {K : EV → World → Prop} {Q : Exit → Act → World → Prop} {w : World} {s : Sem Value} (hop : execOp a.eval o = (do pure (.value (← s)))) (h : RunV P s w (fun v => K (.v v)))
    (hsem : o.semAt r a.eval = execOp a.eval o := by cases r <;> rfl) : o.wpIn (fe r) 0 P a w (fun a' w' => ∃ x : EV, a' = a.put o.dst x.val ∧ K x w') Q := by
  obtain ⟨v, w', hr, hK⟩ := h
  refine ⟨fun _ _ => trivial, ?_⟩
  show o.uponIn (fe r) 0 P a _ Q ((o.semAt r a.eval).run P w)
  rw [hsem, hop]
  simp only [Sem.run_bind, hr, Result.andThen_ok, Sem.run_pure, Oper.uponIn]
  exact ⟨.v v, rfl, hK⟩

theorem wp_value {r : Option Nat} {o : Oper} {K : EV → World → Prop} {Q : Exit → Act → World → Prop} {w : World} {v : Value} (x : EV) (hx : x.val = v) (hop : execOp a.eval o = pure (.value v)) (h : K x w)
    (hsem : o.semAt r a.eval = execOp a.eval o := by cases r <;> rfl) : o.wpIn (fe r) 0 P a w (fun a' w' => ∃ x : EV, a' = a.put o.dst x.val ∧ K x w') Q := by
  refine ⟨fun _ _ => trivial, ?_⟩
  show o.uponIn (fe r) 0 P a _ Q ((o.semAt r a.eval).run P w)
  rw [hsem, hop]
  exact ⟨x, by rw [hx], h⟩

theorem callsIn_fe {r : Option Nat} {n : Nat} {f : FuncId} {args : Array Value} {w : World} {R : Ending → World → Prop} (h : Calls P f args w R) : CallsIn (fe r) n P f args w R := by
  have h := (callsIn_wide (n := n)).2 h
  cases r with
  | none => exact h
  | some l => exact h

theorem wp_of_tr {r : Option Nat} {o : Oper} {K : EV → World → Prop} {kp : List PanicEntry → World → Prop} {Q : Exit → Act → World → Prop} {w : World} {g : FuncId} {args : Array Value}
    (hop : (execOp a.eval o).run P w = (callFunc g args).run P w) (hp : ∀ ch w', kp ch w' → Q (.panic ch) a w') (h : Tr P g args.toList w (back (fun v => K (.v v)) kp))
    (hsem : o.semAt r a.eval = execOp a.eval o := by cases r <;> rfl) : o.wpIn (fe r) 0 P a w (fun a' w' => ∃ x : EV, a' = a.put o.dst x.val ∧ K x w') Q := by
  refine ⟨fun _ _ => trivial, ?_⟩
  show o.uponIn (fe r) 0 P a _ Q ((o.semAt r a.eval).run P w)
  rw [hsem, hop]
  rcases h with ⟨h1, h2⟩ | ⟨v, w', h1, h2⟩
  · rw [h1.run]
    simp only [Oper.uponIn]
    refine ⟨fun h => by cases r <;> simp [fe, Fence.wide] at h, (callsIn_fe (show Calls P g args w _ from h2)).mono ?_⟩
    intro e' w' hb
    cases e' with
    | returned v => exact ⟨.v v, rfl, hb⟩
    | panicked ch => exact hp _ _ hb
    | outgrown => exact hb.elim
  · simp only [Array.toArray_toList] at h1
    rw [h1]
    exact ⟨.v v, rfl, h2⟩

theorem wp_of_yl {r : Option Nat} {o : Oper} {K : EV → World → Prop} {kp : List PanicEntry → World → Prop} {Q : Exit → Act → World → Prop} {w : World} {l : Nat} {args : Array Value}
    (hop : (execOp a.eval o).run P w = (Instr.yield l args).run P w) (hp : ∀ ch w', kp ch w' → Q (.panic ch) a w') (h : Yl P l args.toList w (back (fun v => K (.v v)) kp))
    (hsem : o.semAt r a.eval = execOp a.eval o := by cases r <;> rfl) : o.wpIn (fe r) 0 P a w (fun a' w' => ∃ x : EV, a' = a.put o.dst x.val ∧ K x w') Q := by
  refine ⟨fun _ _ => trivial, ?_⟩
  show o.uponIn (fe r) 0 P a _ Q ((o.semAt r a.eval).run P w)
  rw [hsem, hop]
  obtain ⟨fn, tmps, assign, body, h1, h2⟩ := h
  simp only [Array.toArray_toList] at h1
  rw [h1]
  simp only [Oper.uponIn]
  have h3 : RoundIn (fe r) 0 P l fn tmps assign body w (back (fun v => K (.v v)) kp) := by
    cases r with
    | none => exact h2
    | some l' => exact h2
  refine ⟨fun h => by cases r <;> simp [fe, Fence.wide] at h, h3.mono ?_⟩
  intro e' w' hb
  cases e' with
  | returned v => exact ⟨.v v, rfl, hb⟩
  | panicked ch => exact hp _ _ hb
  | outgrown => exact hb.elim

theorem vcCall_ok {r : Option Nat} (hT : Tab.ok P T) (hA : Agree a e) {o : Oper} {c : Call} (hc : o.op = .call c) {K : EV → World → Prop} {kp : List PanicEntry → World → Prop} {Q : Exit → Act → World → Prop} {w : World}
    (hp : ∀ ch w', kp ch w' → Q (.panic ch) a w') (h : vcCall P T e o.type c (fun v => K (.v v)) kp w) : o.wpIn (fe r) 0 P a w (fun a' w' => ∃ x : EV, a' = a.put o.dst x.val ∧ K x w') Q := by
  obtain ⟨dst, op, type, pos, after, guard⟩ := o
  simp only at hc
  subst hc
  obtain ⟨callee, args, argTypes⟩ := c
  have hargs : ∀ {vs : List Value}, vas e args.toList = some vs → args.map a.eval = vs.toArray := by
    intro vs hv
    apply Array.ext'
    simpa using hA.vas hv
  unfold vcCall at h
  simp only at h
  split at h
  · rename_i g
    split at h
    · rename_i vs hv
      have hr : ∀ w, (execOp a.eval { dst, op := .call { callee := .value (.func g), args, argTypes }, type, pos, after, guard }).run P w = (callFunc g vs.toArray).run P w := by
        intro w
        simp only [execOp, resolve, hargs hv, Act.eval, Deferred.ofValue, Sem.run_bind, Sem.run_pure, Result.andThen_ok, invoke]
        simp
      exact wp_of_tr (args := vs.toArray) (hr w) hp (by simpa [cl] using h)
    · exact h.elim
  · rename_i x _
    split at h
    · rename_i f vs hf hv
      rcases h with ⟨g, first, cap, rfl, h⟩ | ⟨l, rfl, h⟩
      rotate_left
      · refine wp_of_yl (l := l) (args := vs.toArray) ?_ hp (by simpa using h)
        simp only [execOp, resolve, hargs hv, hA.va hf, Deferred.ofValue, Sem.run_bind, Sem.run_pure, Result.andThen_ok, invoke]
        simp
      have hr : ∀ w, (execOp a.eval { dst, op := .call { callee := .value x, args, argTypes }, type, pos, after, guard }).run P w = (callFunc g (first ++ vs.toArray ++ cap)).run P w := by
        intro w
        simp only [execOp, resolve, hargs hv, hA.va hf, Deferred.ofValue, Sem.run_bind, Sem.run_pure, Result.andThen_ok, invoke]
      exact wp_of_tr (hr w) hp (by simpa using h)
    · exact h.elim
  · exact wp_of_runV rfl (vcLen_ok hT hA (ty := type) h)
  · exact wp_of_runV rfl (vcCap_ok hT hA (ty := type) h)
  · exact wp_of_runV rfl (vcAppend_ok hT hA (ty := type) h)
  · exact wp_of_runV rfl (vcMax_ok hA h argTypes type)
  · exact wp_of_runV rfl (vcMin_ok hA h argTypes type)
  · split at h
    · rename_i vs hv
      refine wp_of_runV (s := Builtin.unsafeSliceData_ argTypes type (args.map a.eval)) rfl ?_
      rw [hargs hv]; exact h
    · exact h.elim
  · split at h
    · rename_i vs hv
      refine wp_of_runV (s := Builtin.unsafeString_ argTypes type (args.map a.eval)) rfl ?_
      rw [hargs hv]; exact h
    · exact h.elim
  · split at h
    · rename_i vs hv
      refine wp_of_runV (s := Builtin.copy_ argTypes type (args.map a.eval)) rfl ?_
      rw [hargs hv]; exact h
    · exact h.elim
  · exact h.elim

theorem vcOp_ok {r : Option Nat} (hT : Tab.ok P T) (hA : Agree a e) {o : Oper} {K : EV → World → Prop} {kp : List PanicEntry → World → Prop} {Q : Exit → Act → World → Prop} {w : World}
    (hp : ∀ ch w', kp ch w' → Q (.panic ch) a w') (h : vcOp P T e o K kp w) : o.wpIn (fe r) 0 P a w (fun a' w' => ∃ x : EV, a' = a.put o.dst x.val ∧ K x w') Q := by
  obtain ⟨dst, op, type, pos, after, guard⟩ := o
  cases op with
  | move x =>
    simp only [vcOp] at h
    split at h
    · rename_i v hv; exact wp_value v (hA.ev hv).symm rfl h
    · exact h.elim
  | assign x =>
    simp only [vcOp] at h
    split at h
    · rename_i v hv; exact wp_value v (hA.ev hv).symm rfl h
    · exact h.elim
  | pick c x y =>
    simp only [vcOp] at h
    have hrun : ∀ t, a.eval c = .bool t → execOp a.eval { dst, op := .pick c x y, type, pos, after, guard } = pure (.value (if t then a.eval x else a.eval y)) := by
      intro t ht
      simp only [execOp, ht]
      cases t <;> rfl
    split at h
    · rename_i x' h1 h2; exact wp_value x' (hA.ev h2).symm (hrun true (hA.ev h1)) h
    · rename_i y' h1 h2; exact wp_value y' (hA.ev h2).symm (hrun false (hA.ev h1)) h
    · rename_i c' x' y' h1 h2 h3
      obtain ⟨t, rfl, hK⟩ := h
      refine wp_value (.v (bif t then x'.val else y'.val)) ?_ (hrun t (hA.ev h1)) hK
      cases t
      · exact (hA.ev h3).symm
      · exact (hA.ev h2).symm
    · exact h.elim
  | alloc t =>
    simp only [vcOp] at h
    split at h
    · rename_i i hi; exact wp_of_runV rfl (so_al (hT.get_ok hi) h)
    · exact h.elim
  | box t x =>
    simp only [vcOp] at h
    split at h
    · rename_i v hv; exact wp_of_runV rfl (by rw [hA.va hv]; exact so_box h)
    · exact h.elim
  | build t ps => exact wp_of_runV rfl (vcBuild_ok hT hA h)
  | buildSlice t n ps => exact wp_of_runV rfl (vcBuildSlice_ok hT hA h)
  | load t x =>
    simp only [vcOp] at h
    split at h
    · rename_i i v hi hv
      split at h
      · rename_i hk; exact wp_of_runV rfl (by rw [hA.va hv]; exact so_ldn (hT.get_ok hi) hk h)
      · rename_i hk; exact wp_of_runV rfl (by rw [hA.va hv]; exact so_ld (hT.get_ok hi) hk h)
    · exact h.elim
  | store t p x =>
    simp only [vcOp] at h
    split at h
    · rename_i i u v hi hu hv
      obtain ⟨w', hr, hK⟩ := so_st (hT.get_ok hi) h
      refine ⟨fun _ _ => trivial, ?_⟩
      have hsem : (Oper.mk dst (.store t p x) type pos after guard).semAt r a.eval = execOp a.eval (Oper.mk dst (.store t p x) type pos after guard) := by cases r <;> rfl
      show Oper.uponIn (fe r) 0 P _ a _ Q ((Oper.semAt r a.eval _).run P w)
      rw [hsem]
      simp only [execOp, hA.va hu, hA.va hv, Sem.run_bind, hr, Result.andThen_ok, Sem.run_pure, Oper.uponIn]
      exact ⟨.u, rfl, hK⟩
    · exact h.elim
  | nilCheck x =>
    simp only [vcOp] at h
    split at h
    · rename_i v hv
      obtain ⟨p, rfl, hK⟩ := h
      refine wp_value (.v (.pointer (some p))) rfl ?_ hK
      simp only [execOp, hA.va hv]
      rfl
    · exact h.elim
  | binOp op t x y ty => exact wp_of_runV rfl (vcBin_ok hT hA h)
  | unOp op t x =>
    cases op <;> simp only [vcOp] at h
    case not =>
      split at h
      · rename_i v hv
        obtain ⟨b, rfl, hK⟩ := h
        refine wp_value (.v (.bool (!b))) rfl ?_ hK
        simp only [execOp, hA.va hv, Op.unary]
        rfl
      · exact h.elim
    case neg =>
      split at h
      · rename_i v hv
        obtain ⟨k, n, rfl, hK⟩ := h
        refine wp_value (.v (.int k (k.wrap (0 - n)))) rfl ?_ hK
        simp only [execOp, hA.va hv, Op.unary, Op.intArith]
        rfl
      · exact h.elim
  | convert s d x => exact wp_of_runV rfl (vcConv_ok hT hA h)
  | makeInterface t x =>
    simp only [vcOp] at h
    split at h
    · rename_i i v hi hv
      refine wp_of_runV rfl (by
        rw [hA.va hv]
        refine so_mi (hT.get_ok hi) ?_ (K := fun v => K (.v v)) ?_
        · split at h <;> first | exact h.elim | rfl | (split <;> simp_all)
        · split at h <;> first | exact h.elim | exact h)
    · exact h.elim
  | makeFunc fn first cap =>
    simp only [vcOp] at h
    split at h
    · rename_i u v hu hv
      refine wp_value (.v (.func fn u.toArray v.toArray)) rfl ?_ h
      have e1 : first.map a.eval = u.toArray := by apply Array.ext'; simpa using hA.vas hu
      have e2 : cap.map a.eval = v.toArray := by apply Array.ext'; simpa using hA.vas hv
      simp only [execOp, Instr.makeFunc, e1, e2, EV.val]
      rfl
    · exact h.elim
  | makeSlice t l c =>
    simp only [vcOp] at h
    split at h
    · rename_i i u v hi hu hv
      split at h
      · rename_i q hk
        split at h
        · rename_i j hj
          split at h
          · rename_i hz
            exact wp_of_runV rfl (by rw [hA.va hu, hA.va hv]; exact so_mk (hT.get_ok hi) hk (hT.get_ok hj) (Nat.eq_of_beq_eq_true hz) h)
          · exact h.elim
        · exact h.elim
      · exact h.elim
    · exact h.elim
  | slice t x lo hi mx => exact wp_of_runV rfl (vcSlice_ok hT hA h)
  | fieldAddr t x f =>
    simp only [vcOp, vcFieldAddr] at h
    split at h
    · rename_i i v hi hv
      split at h
      · rename_i fs hk
        split at h
        · rename_i off q hf
          split at h
          · rename_i j hj
            split at h
            · rename_i hz
              exact wp_of_runV rfl (by rw [hA.va hv]; exact so_fa (hT.get_ok hi) hk hf (hT.get_ok hj) (fun e => by rw [e] at hz; simp at hz) h)
            · exact h.elim
          · exact h.elim
        · exact h.elim
      · exact h.elim
    · exact h.elim
  | field t x f =>
    simp only [vcOp, vcField] at h
    split at h
    · rename_i i v hi hv
      split at h
      · rename_i fs hk
        split at h
        · rename_i off q hf
          split at h
          · rename_i j hj
            exact wp_of_runV rfl (by rw [hA.va hv]; exact so_fl (hT.get_ok hi) hk hf (hT.get_ok hj) h)
          · exact h.elim
        · exact h.elim
      · exact h.elim
    · exact h.elim
  | indexAddr t x y =>
    simp only [vcOp, vcIndexAddr] at h
    split at h
    · rename_i i u v hi hu hv
      split at h
      · rename_i q hk
        split at h
        · rename_i j hj
          exact wp_of_runV rfl (by rw [hA.va hu, hA.va hv]; exact so_ia (hT.get_ok hi) hk (hT.get_ok hj) h)
        · exact h.elim
      · rename_i n q hk
        split at h
        · rename_i j hj
          exact wp_of_runV rfl (by rw [hA.va hu, hA.va hv]; exact so_iar (hT.get_ok hi) hk (hT.get_ok hj) h)
        · exact h.elim
      · exact h.elim
    · exact h.elim
  | index t x y =>
    simp only [vcOp, vcIndex] at h
    split at h
    · rename_i i u v hi hu hv
      split at h
      · rename_i hk
        exact wp_of_runV rfl (by rw [hA.va hu, hA.va hv]; exact so_ix (hT.get_ok hi) hk h)
      · exact h.elim
    · exact h.elim
  | range t x =>
    simp only [vcOp] at h
    split at h
    · rename_i i v hi hv
      split at h
      · rename_i hk
        exact wp_of_runV rfl (by rw [hA.va hv]; exact so_rgS (hT.get_ok hi) hk h)
      · exact h.elim
    · exact h.elim
  | next x b =>
    cases b <;> simp only [vcOp] at h
    split at h
    · rename_i v hv
      exact wp_of_runV rfl (by rw [hA.va hv]; exact so_nxS h)
    · exact h.elim
  | extract x i =>
    simp only [vcOp] at h
    split at h
    · rename_i v hv
      exact wp_of_runV rfl (by rw [hA.va hv]; exact so_ex h)
    · exact h.elim
  | call c => exact vcCall_ok hT hA rfl hp h
  | typeAssert x xt t ok =>
    simp only [vcOp] at h
    split at h
    · rename_i v hv
      exact wp_of_runV rfl (by rw [hA.va hv]; exact rV.runV h)
    · exact h.elim
  | panic x =>
    simp only [vcOp] at h
    split at h
    · rename_i v hv
      obtain ⟨t, y, rfl, hK⟩ := h
      refine ⟨fun _ _ => trivial, ?_⟩
      have hsem : (Oper.mk dst (.panic x) type pos after guard).semAt r a.eval = execOp a.eval (Oper.mk dst (.panic x) type pos after guard) := by cases r <;> rfl
      show Oper.uponIn (fe r) 0 P _ a _ Q ((Oper.semAt r a.eval _).run P w)
      rw [hsem]
      simp only [execOp, hA.va hv, Instr.panic, goPanic, Sem.run_bind]
      exact hp _ _ hK
    · exact h.elim
  | _ => simp only [vcOp] at h
end
end Go.Vx
namespace Go.Vx
open Go

/-- A state: what is known of the slots, and the calls that are deferred. -/
structure S where
  e : Env
  ds : List Deferred

structure Kont where
  nrm : S → World → Prop
  ext : Nat → S → World → Prop
  gto : Nat → S → World → Prop
  ret : S → World → Prop
  pnc : S → List PanicEntry → World → Prop

def cnd (c : Value) (A B : Prop) : Prop := ∃ t, c = .bool t ∧ (t = true → A) ∧ (t = false → B)

/-- All of these are the same. -/
def sm (l : List (Value × Value)) (d d' : List Deferred) (p : Prop) : Prop := (∀ q ∈ l, q.1 = q.2) ∧ d' = d ∧ p

/-- A function value is deferred. -/
def df (f : Value) (args : List Value) (K : Deferred → World → Prop) (w : World) : Prop :=
  ∃ fn first cap, f = .func fn first cap ∧ K { target := .fn fn cap, args := first ++ args.toArray } w

/-! ### Functions of some values -/
def Fn : Nat → Type
  | 0 => World → Prop
  | n + 1 => Value → Fn n

def curry : (n : Nat) → (List Value → World → Prop) → Fn n
  | 0, F => F []
  | n + 1, F => fun v => curry n fun vs => F (v :: vs)

def Fn.app : (n : Nat) → Fn n → List Value → World → Prop
  | 0, f, [] => f
  | n + 1, f, v :: vs => Fn.app n (f v) vs
  | _, _, _ => fun _ => False

theorem app_curry : ∀ (n : Nat) (F : List Value → World → Prop) (vs : List Value), vs.length = n → Fn.app n (curry n F) vs = F vs := by
  intro n
  induction n with
  | zero => intro F vs h; simp only [List.length_eq_zero_iff] at h; subst h; rfl
  | succ n ih =>
    intro F vs h
    cases vs with
    | nil => simp at h
    | cons v vs => exact ih (fun vs => F (v :: vs)) vs (by simpa using h)

/-- Where ways meet: what follows is told once. -/
def jn (n : Nat) (k : Fn n) (b : Fn n → Prop) : Prop := b k

def allFn : (n : Nat) → (List Value → World → Prop) → Fn n → Prop
  | 0, pre, f => ∀ w, pre [] w → f w
  | n + 1, pre, f => ∀ v, allFn n (fun vs => pre (v :: vs)) (f v)

theorem allFn_app : ∀ (n : Nat) (pre : List Value → World → Prop) (f : Fn n), allFn n pre f → ∀ vs w, vs.length = n → pre vs w → Fn.app n f vs w := by
  intro n
  induction n with
  | zero => intro pre f h vs w hl hp; simp only [List.length_eq_zero_iff] at hl; subst hl; exact h w hp
  | succ n ih =>
    intro pre f h vs w hl hp
    cases vs with
    | nil => simp at hl
    | cons v vs => exact ih _ _ (h v) vs w (by simpa using hl) hp

/-- A loop, by what holds at each round's head. -/
def lp (n : Nat) (init : List Value) (body : (List Value → World → Prop) → Fn n) (w : World) : Prop :=
  ∃ I : Nat → List Value → World → Prop, (∃ m, I m init w) ∧ ∀ m, allFn n (I m) (body fun vs w' => ∃ m', m' < m ∧ I m' vs w')

/-- Labels: what holds where one is jumped to. -/
def sc (n : Nat) (first : (Nat → List Value → World → Prop) → Prop) (rests : List (Nat × ((Nat → List Value → World → Prop) → Fn n))) : Prop :=
  ∃ J : Nat → Nat → List Value → World → Prop, first (fun l vs w' => ∃ m, J m l vs w') ∧ ∀ p ∈ rests, ∀ m, allFn n (J m p.1) (p.2 (fun l' vs w' => ∃ m', m' < m ∧ J m' l' vs w'))

/-! ### Slots -/
def opMask : Operand → Nat
  | .tmp t => 1 <<< t
  | _ => 0

def opsMask : List Operand → Nat
  | [] => 0
  | x :: l => opMask x ||| opsMask l

def dstMask : Option Nat → Nat
  | some d => 1 <<< d
  | none => 0

def readsOps : List Oper → Nat
  | [] => 0
  | o :: l => opsMask o.op.operands.toList ||| readsOps l

def writesOps : List Oper → Nat
  | [] => 0
  | o :: l => dstMask o.dst ||| writesOps l

def reads : Code → Nat
  | .region _ ops _ => readsOps ops.toList
  | .seq a b => reads a ||| reads b
  | .cond c x y => opMask c ||| (reads x ||| reads y)
  | .block _ c => reads c
  | .loop c => reads c
  | .scope c => reads c
  | .rangeFunc f _ a b => opMask f ||| (reads a ||| reads b)
  | _ => 0

def ueOps : List Oper → Nat → Nat
  | [], out => out
  | o :: l, out =>
    let r := ueOps l out
    (match o.guard with | some _ => r | none => r &&& (r ^^^ (r &&& dstMask o.dst))) ||| opsMask o.op.operands.toList

/-- The slots that are looked at before they are written: by what is live where it goes on, and where it leaves. -/
def ue : Code → Nat → Nat → Nat
  | .skip, n, _ => n
  | .label _, n, _ => n
  | .region _ ops _, n, _ => ueOps ops.toList n
  | .seq a b, n, o => ue a (ue b n o) o
  | .cond c x y, n, o => opMask c ||| (ue x n o ||| ue y n o)
  | .block _ c, n, o => ue c n (n ||| o)
  | .loop c, _, o => ue c 0 o
  | .scope c, n, o => ue c n (o ||| reads c)
  | .rangeFunc f _ a b, n, o => (opMask f ||| (reads a ||| reads b)) ||| (n ||| o)
  | _, _, o => o

def lpLive (c : Code) (lv : Nat) : Nat := ue c 0 lv ||| lv

def lblLive (c : Code) (x : Nat) : List Nat → Nat
  | [] => x
  | l :: ls => (match findLabel c l with | some r => ue r x x | none => 0) ||| lblLive c x ls

def writes : Code → Nat
  | .region _ ops _ => writesOps ops.toList
  | .seq a b => writes a ||| writes b
  | .cond _ x y => writes x ||| writes y
  | .block _ c => writes c
  | .loop c => writes c
  | .scope c => writes c
  | .rangeFunc _ _ a b => writes a ||| writes b
  | _ => 0

/-- The slots of a mask, rising, below n. -/
def bits (m : Nat) : Nat → List Nat
  | 0 => []
  | n + 1 => match m.testBit n with
    | true => bits m n ++ [n]
    | false => bits m n

/-! ### When ways are to meet -/
def hasGuard : List Oper → Nat
  | [] => 0
  | o :: l => match o.guard with
    | some _ => 1
    | none => hasGuard l

def isDefer : Op → Bool
  | .defer _ => true
  | _ => false

def noDefer : Code → Bool
  | .region _ ops _ => ops.toList.all fun o => !isDefer o.op
  | .seq a b => noDefer a && noDefer b
  | .cond _ x y => noDefer x && noDefer y
  | .block _ c => noDefer c
  | .loop c => noDefer c
  | .scope c => noDefer c
  | .rangeFunc .. => false
  | _ => true

/-- What may stand in a round of a loop over a function. -/
def calm : Code → Bool
  | .region _ ops _ => ops.toList.all fun o => !isDefer o.op
  | .seq a b => calm a && calm b
  | .cond _ x y => calm x && calm y
  | .block _ c => calm c
  | .loop _ => false
  | .scope _ => false
  | .rangeFunc .. => false
  | _ => true

/-- A block of the heap is this one. -/
def lk (l : Nat) (o : Obj) (p : Prop) (w : World) : Prop := w.heap[l]? = some o ∧ p
/-- A block of the heap is this one, and becomes another one. -/
def up (l : Nat) (o o' : Obj) (K : World → Prop) (w : World) : Prop := w.heap[l]? = some o ∧ K (setBlk w l o')
/-- A loop over a function: its record o (ready), ob (in a round), ox (over); bd: what a round must do. -/
def rf (P : Program) (m : Nat) (fv : Value) (bd : Obj → Obj → Nat → (World → Prop) → Fn m) (K : Nat → World → Prop) (w : World) : Prop :=
  ∃ gf cap, fv = .func (.func gf) #[] cap ∧ Enter P gf ∧ ∀ (o ob ox : Obj) (W1 : World), W1.os = w.os → W1.tape = w.tape → W1.output = w.output → W1.heap = (w.heap.push (.deferred (some []))).push o →
    (∀ (args : List Value) (W : World) (R : Ending → World → Prop), args.length = m → Fn.app m (bd o ob (w.heap.size + 1) (fun W2 => R (.returned (.bool true)) W2)) args W → Yl P (w.heap.size + 1) args W R) →
    Tr P gf (.func (.yield (w.heap.size + 1)) #[] #[] :: cap.toList) W1 (fun e W3 => match e with
      | .returned _ => up (w.heap.size + 1) o ox (K w.heap.size) W3
      | _ => False)
/-- The mark that a loop over a function leaves among what is deferred. -/
abbrev mark (d : Nat) : Deferred := { target := .collected d, args := #[] }

/-- How many ways lead out to what follows; out by an exit of some block. -/
def outs : Code → Nat
  | .skip => 1
  | .region _ ops _ => 1 + hasGuard ops.toList
  | .seq a b => outs a * outs b
  | .cond _ x y => outs x + outs y
  | .block id c => outs c + exits id c
  | .loop _ => 0
  | .scope c => outs c
  | .label _ => 1
  | .rangeFunc .. => 1
  | _ => 0
  where
  exits (id : Nat) : Code → Nat
    | .exit i => match Nat.beq i id with | true => 1 | false => 0
    | .seq a b => exits id a + exits id b
    | .cond _ x y => exits id x + exits id y
    | .block _ c => exits id c
    | .loop c => exits id c
    | .scope c => exits id c
    | _ => 0

def weight : Code → Nat
  | .region _ ops _ => ops.size
  | .seq a b => weight a + weight b
  | .cond _ x y => 1 + weight x + weight y
  | .block _ c => weight c
  | .loop c => 1 + weight c
  | .scope c => weight c
  | .rangeFunc .. => 10
  | _ => 0

def meets (a b : Code) : Bool := Nat.ble 2 (outs a) && (Nat.ble 5 (weight b) && noDefer a)

def labelsOf : Code → List Nat
  | .seq a b => labelsOf a ++ labelsOf b
  | .label l => [l]
  | _ => []

def scLive (c : Code) (lv : Nat) : Nat := lblLive c (lblLive c (lblLive c lv (labelsOf c)) (labelsOf c)) (labelsOf c)

/-! ### States at a meeting -/
/-- What is known of the slots of a list. -/
def keep (e : Env) : List Nat → Env
  | [] => []
  | t :: ts => match e.get t with
    | some x => (t, x) :: keep e ts
    | none => keep e ts

def adds : List Nat → List Value → Env → Env
  | t :: ts, v :: vs, e => (t, .v v) :: adds ts vs e
  | _, _, e => e

/-- What a round is handed. -/
def addsR : List Nat → List Value → Env → Env
  | t :: ts, v :: vs, e => addsR ts vs ((t, .v v) :: e)
  | _, _, e => e

/-- Slots that are as they were. -/
def sames (old : Env) (e : Env) : List Nat → Option (List (Value × Value))
  | [] => some []
  | t :: ts => match old.get t, e.get t, sames old e ts with
    | some x, some y, some l => some ((y.val, x.val) :: l)
    | some _, none, _ => none
    | none, _, l => l
    | _, _, none => none

/-- On, with what the slots hold: of one of which nothing is known, whatever it is. -/
def callK : (n : Nat) → Fn n → List Nat → Env → World → Prop
  | 0, kf, [], _, w => kf w
  | n + 1, kf, t :: ts, e, w => match e.get t with
    | some x => callK n (kf x.val) ts e w
    | none => ∀ v, callK n (kf v) ts e w
  | _, _, _, _, _ => False

/-- The values of slots that are all known. -/
def vals (e : Env) : List Nat → Option (List Value)
  | [] => some []
  | t :: ts => match e.get t, vals e ts with
    | some x, some l => some (x.val :: l)
    | _, _ => none

/-- The slots of a list of which something is known. -/
def known (e : Env) : List Nat → List Nat
  | [] => []
  | t :: ts => match e.get t with
    | some _ => t :: known e ts
    | none => known e ts

def putS (n : Nat) (s : S) (d : Option Nat) (x : EV) (K : S → World → Prop) (w : World) : Prop :=
  match d with
  | none => K s w
  | some d => match Nat.blt d n with
    | true => K { e := (d, x) :: s.e, ds := s.ds } w
    | false => False

section
variable (P : Program) (T : Tab) (n : Nat)

def vcDefer (s : S) (c : Call) (K : S → World → Prop) (w : World) : Prop :=
  match c.callee with
  | .value x => match va s.e x, vas s.e c.args.toList with
    | some f, some vs => df f vs (fun d w' => K { e := s.e, ds := d :: s.ds } w') w
    | _, _ => False
  | _ => False

def vcExec (o : Oper) (s : S) (K : S → World → Prop) (kp : S → List PanicEntry → World → Prop) (w : World) : Prop :=
  match o.op with
  | .defer c => vcDefer s c (fun s' w' => putS n s' o.dst .u K w') w
  | _ => vcOp P T s.e o (fun x w' => putS n s o.dst x K w') (kp s) w

def vcOps (ops : Array Oper) : List Oper → S → (S → World → Prop) → (S → List PanicEntry → World → Prop) → World → Prop
  | [], s, kn, _, w => kn s w
  | o :: rest, s, kn, kp, w =>
    let go : S → Prop := fun s => vcExec P T n o s (fun s' w' => vcOps ops rest s' kn kp w') kp w
    let skip : S → Prop := fun s => putS n s o.dst .u (fun s' w' => vcOps ops rest s' kn kp w') w
    match o.guard with
    | none => go s
    | some (j, want) => match (ops[j]?).bind (·.dst) with
      | none => False
      | some d => match s.e.get d with
        | some (.b true) => (match want with | true => go s | false => skip s)
        | some (.b false) => (match want with | true => skip s | false => go s)
        | some .u => skip s
        | some (.v c) => (match want with
          | true => cnd c (go { e := (d, .b true) :: s.e, ds := s.ds }) (skip { e := (d, .b false) :: s.e, ds := s.ds })
          | false => cnd c (skip { e := (d, .b true) :: s.e, ds := s.ds }) (go { e := (d, .b false) :: s.e, ds := s.ds }))
        | none => False

/-- A region whose order is drawn: given from outside. -/
abbrev Draw := Array Oper → S → (S → World → Prop) → (S → List PanicEntry → World → Prop) → World → Prop

def vc (D : Draw) : Nat → Code → S → Nat → Kont → World → Prop
  | 0, _, _, _, _, _ => False
  | f + 1, c, s, lv, k, w =>
    match c with
    | .skip => k.nrm s w
    | .label _ => k.nrm s w
    | .region _ ops false => vcOps P T n ops ops.toList s k.nrm k.pnc w
    | .region _ ops true => D ops s k.nrm k.pnc w
    | .cond c x y => match ev s.e c with
      | some (.b true) => vc D f x s lv k w
      | some (.b false) => vc D f y s lv k w
      | some (.v c) => cnd c (vc D f x s lv k w) (vc D f y s lv k w)
      | _ => False
    | .block id c => vc D f c s lv { nrm := k.nrm, ext := fun id' s' w' => (match Nat.beq id' id with | true => k.nrm s' w' | false => k.ext id' s' w'), gto := k.gto, ret := k.ret, pnc := k.pnc } w
    | .exit id => k.ext id s w
    | .goto l => k.gto l s w
    | .ret => k.ret s w
    | .seq a b =>
      match meets a b with
      | false => vc D f a s (ue b lv lv ||| lv) { nrm := fun s' w' => vc D f b s' lv k w', ext := k.ext, gto := k.gto, ret := k.ret, pnc := k.pnc } w
      | true =>
        let live := ue b lv lv ||| lv
        let C := bits (writes a &&& live) n
        let U := bits (live &&& (live ^^^ (writes a &&& live))) n
        let U' := known s.e U
        jn C.length (curry C.length fun vs w' => vc D f b { e := adds C vs (keep s.e U'), ds := s.ds } lv k w')
          fun kf => vc D f a s live { nrm := fun s' w' => (match sames s.e s'.e U' with | some l => sm l s.ds s'.ds (callK C.length kf C s'.e w') | none => False), ext := k.ext, gto := k.gto, ret := k.ret, pnc := k.pnc } w
    | .loop c =>
      match noDefer c with
      | false => False
      | true =>
        let live := lpLive c lv
        let C := known s.e (bits (writes c &&& live) n)
        let U' := known s.e (bits (live &&& (live ^^^ (writes c &&& live))) n)
        match vals s.e C with
        | none => False
        | some init => lp C.length init (fun rec => curry C.length fun vs w' => vc D f c { e := adds C vs (keep s.e U'), ds := s.ds } live
            { nrm := fun s' w' => (match sames s.e s'.e U', vals s'.e C with | some l, some vs' => sm l s.ds s'.ds (rec vs' w') | _, _ => False), ext := k.ext, gto := k.gto, ret := k.ret, pnc := k.pnc } w') w
    | .scope c =>
      match noDefer c with
      | false => False
      | true =>
        let ls := labelsOf c
        let live := scLive c lv
        let C := bits (writes c &&& live) n
        let U' := known s.e (bits (live &&& (live ^^^ (writes c &&& live))) n)
        let jump (J : Nat → List Value → World → Prop) : Nat → S → World → Prop := fun l s' w' => (match ls.contains l with
          | true => (match sames s.e s'.e U' with | some q => sm q s.ds s'.ds (callK C.length (curry C.length fun vs w' => J l vs w') C s'.e w') | none => False)
          | false => k.gto l s' w')
        sc C.length (fun J => vc D f c s live { nrm := k.nrm, ext := k.ext, gto := jump J, ret := k.ret, pnc := k.pnc } w)
          (ls.map fun l => (l, fun J => match findLabel c l with
            | some r => curry C.length fun vs w' => vc D f r { e := adds C vs (keep s.e U'), ds := s.ds } live { nrm := k.nrm, ext := k.ext, gto := jump J, ret := k.ret, pnc := k.pnc } w'
            | none => curry C.length fun _ _ => False))
    | .rangeFunc g ps x y =>
      match calm x && (calm y && ps.toList.all (fun t => Nat.blt t n)), va s.e g with
      | true, some fv => rf P ps.toList.length fv (fun o ob l Kn => curry ps.toList.length fun vs w1 => lk l o (vc D f x { e := addsR ps.toList vs s.e, ds := [] } (ue y 0 0)
            { nrm := fun s1 w2 => up l o ob (fun w3 => vc D f y s1 0
                { nrm := fun _ w4 => up l ob o Kn w4, ext := fun _ _ _ => False, gto := fun _ _ _ => False, ret := fun _ _ => False, pnc := fun _ _ _ => False } w3) w2,
              ext := fun _ _ _ => False, gto := fun _ _ _ => False, ret := fun _ _ => False, pnc := fun _ _ _ => False } w1) w1)
          (fun d w' => k.nrm { e := s.e, ds := mark d :: s.ds } w') w
      | _, _ => False
    | _ => False
end
end Go.Vx
namespace Go.Vx
open Go

structure R (n : Nat) (a : Act) (s : S) : Prop where
  e : Agree a s.e
  size : a.tmps.size = n
  ds : a.defers = s.ds

def Kont.toQ (n : Nat) (k : Kont) : Exit → Act → World → Prop
  | .normal, a, w => ∃ s, R n a s ∧ k.nrm s w
  | .exit id, a, w => ∃ s, R n a s ∧ k.ext id s w
  | .goto l, a, w => ∃ s, R n a s ∧ k.gto l s w
  | .ret, a, w => ∃ s, R n a s ∧ k.ret s w
  | .panic ch, a, w => ∃ s, R n a s ∧ k.pnc s ch w
  | .outgrown, _, _ => False

/-- A region drawn is told truly. -/
def DrawOk (P : Program) (n : Nat) (D : Draw) : Prop :=
  ∀ (r : Option Nat) (id : Nat) (ops : Array Oper) (s : S) (k : Kont) (w : World) (a : Act), R n a s → D ops s k.nrm k.pnc w → (Code.region id ops true).wpIn (fe r) 0 P (k.toQ n) a w

section
variable {P : Program} {T : Tab} {n : Nat}

theorem putS_ok {a : Act} {s : S} {d : Option Nat} {x : EV} {K : S → World → Prop} {w : World} (hR : R n a s) (h : putS n s d x K w) : ∃ s', R n (a.put d x.val) s' ∧ K s' w := by
  cases d with
  | none => exact ⟨s, hR, h⟩
  | some d =>
    simp only [putS] at h
    split at h
    · rename_i hb
      have hd : d < n := by rw [← Nat.blt_eq]; exact hb
      exact ⟨{ e := (d, x) :: s.e, ds := s.ds }, ⟨hR.e.put (by rw [hR.size]; exact hd) x, by rw [size_put]; exact hR.size, hR.ds⟩, h⟩
    · exact h.elim

theorem vcExec_ok {r : Option Nat} (hT : Tab.ok P T) {a : Act} {s : S} (hR : R n a s) {o : Oper} (hd : r = none ∨ isDefer o.op = false) {K : S → World → Prop} {k : Kont} {w : World} (h : vcExec P T n o s K k.pnc w) :
    o.wpIn (fe r) 0 P a w (fun a' w' => ∃ s', R n a' s' ∧ K s' w') (k.toQ n) := by
  unfold vcExec at h
  split at h
  · rename_i c hc
    obtain ⟨dst, op, type, pos, after, guard⟩ := o
    simp only at hc
    subst hc
    obtain ⟨callee, args, argTypes⟩ := c
    unfold vcDefer at h
    simp only at h
    split at h
    · split at h
      · rename_i x _ f vs hf hv
        obtain ⟨fn, first, cap, rfl, h⟩ := h
        have hargs : args.map a.eval = vs.toArray := by
          apply Array.ext'
          simpa using hR.e.vas hv
        have hr : r = none := by rcases hd with hd | hd; exact hd; simp [isDefer] at hd
        subst hr
        refine ⟨fun _ _ => trivial, ?_⟩
        have hsem : ∀ o', Oper.semAt (fe none).round a.eval o' = execOp a.eval o' := fun _ => rfl
        rw [hsem]
        simp only [execOp, resolve, hargs, hR.e.va hf, Deferred.ofValue, Sem.run_bind, Sem.run_pure, Result.andThen_ok, Oper.uponIn]
        have hR' : R n { a with defers := { target := .fn fn cap, args := first ++ vs.toArray } :: a.defers } { e := s.e, ds := { target := .fn fn cap, args := first ++ vs.toArray } :: s.ds } :=
          ⟨hR.e, hR.size, by simp [hR.ds]⟩
        exact putS_ok (x := .u) hR' h
      · exact h.elim
    · exact h.elim
  · refine Oper.wpIn_mono ?_ (vcOp_ok (Q := k.toQ n) hT hR.e (fun ch w' hk => ⟨s, hR, hk⟩) h)
    rintro a' w' ⟨x, rfl, hx⟩
    exact putS_ok hR hx

theorem vcOps_ok {r : Option Nat} (hT : Tab.ok P T) {ops : Array Oper} (hd : r = none ∨ ∀ o ∈ ops.toList, isDefer o.op = false) {k : Kont} : ∀ (rest : List Oper) (i : Nat) (s : S) (a : Act) (w : World), ops.toList.drop i = rest → R n a s → vcOps P T n ops rest s k.nrm k.pnc w →
    wpOpsIn (fe r) 0 P ops (k.toQ n) (List.range' i rest.length) a w := by
  intro rest
  induction rest with
  | nil => intro i s a w _ hR h; exact ⟨s, hR, h⟩
  | cons o rest ih =>
    intro i s a w hdr hR h
    have ho : ops[i]? = some o := by
      have : (ops.toList.drop i)[0]? = some o := by rw [hdr]; rfl
      simpa using this
    have hd' : ops.toList.drop (i + 1) = rest := by
      have : (ops.toList.drop i).drop 1 = rest := by rw [hdr]; rfl
      rwa [List.drop_drop] at this
    have go : ∀ s, R n a s → Region.wanted o (yielded ops a.tmps) = true → vcExec P T n o s (fun s' w' => vcOps P T n ops rest s' k.nrm k.pnc w') k.pnc w → wpOpsIn (fe r) 0 P ops (k.toQ n) (List.range' i (rest.length + 1)) a w := by
      intro s hR hw h
      simp only [List.range'_succ, wpOpsIn, ho, hw, if_true]
      refine Oper.wpIn_mono ?_ (vcExec_ok hT hR (hd.imp (fun h => h) fun h => h o (by simpa using List.mem_of_getElem? (by simpa using ho : ops.toList[i]? = some o))) h)
      rintro a' w' ⟨s', hR', h'⟩
      exact ih (i + 1) s' a' w' hd' hR' h'
    have skip : ∀ s, R n a s → Region.wanted o (yielded ops a.tmps) = false → putS n s o.dst .u (fun s' w' => vcOps P T n ops rest s' k.nrm k.pnc w') w → wpOpsIn (fe r) 0 P ops (k.toQ n) (List.range' i (rest.length + 1)) a w := by
      intro s hR hw h
      simp only [List.range'_succ, wpOpsIn, ho, hw, Bool.false_eq_true, if_false]
      refine ⟨fun _ _ => trivial, ?_⟩
      obtain ⟨s', hR', h'⟩ := putS_ok hR h
      exact ih (i + 1) s' _ w hd' hR' h'
    simp only [List.length_cons]
    simp only [vcOps] at h
    split at h
    · rename_i hg
      exact go s hR (by simp [Region.wanted, hg]) h
    · rename_i j want hg
      split at h
      · exact h.elim
      · rename_i d hd0
        have hy : ∀ x, s.e.get d = some x → yielded ops a.tmps j = (match x.val with | .bool b => some b | _ => none) := by
          intro x hx
          have := hR.e d x hx
          simp only [yielded, hd0, Option.bind_some, this]
          cases x.val <;> rfl
        have hput : ∀ (t : Bool), a.tmps[d]? = some (.bool t) → R n a { e := (d, .b t) :: s.e, ds := s.ds } := by
          intro t ht
          refine ⟨?_, hR.size, hR.ds⟩
          intro q y hq
          simp only [Env.get] at hq
          split at hq
          · rename_i hb
            have : d = q := Nat.eq_of_beq_eq_true hb
            subst this
            injection hq with hq
            subst hq
            exact ht
          · exact hR.e q y hq
        split at h
        · rename_i hx
          cases want
          · exact skip s hR (by simp [Region.wanted, hg, hy _ hx, EV.val]) h
          · exact go s hR (by simp [Region.wanted, hg, hy _ hx, EV.val]) h
        · rename_i hx
          cases want
          · exact go s hR (by simp [Region.wanted, hg, hy _ hx, EV.val]) h
          · exact skip s hR (by simp [Region.wanted, hg, hy _ hx, EV.val]) h
        · rename_i hx
          exact skip s hR (by simp [Region.wanted, hg, hy _ hx, EV.val, undef]) h
        · rename_i c hx
          cases want
          · obtain ⟨t, rfl, h1, h2⟩ := h
            have ht := hR.e d _ hx
            cases t
            · exact go _ (hput false ht) (by simp [Region.wanted, hg, hy _ hx, EV.val]) (h2 rfl)
            · exact skip _ (hput true ht) (by simp [Region.wanted, hg, hy _ hx, EV.val]) (h1 rfl)
          · obtain ⟨t, rfl, h1, h2⟩ := h
            have ht := hR.e d _ hx
            cases t
            · exact skip _ (hput false ht) (by simp [Region.wanted, hg, hy _ hx, EV.val]) (h2 rfl)
            · exact go _ (hput true ht) (by simp [Region.wanted, hg, hy _ hx, EV.val]) (h1 rfl)
        · exact h.elim

theorem keep_get {e : Env} : ∀ {ts : List Nat} {t : Nat} {x : EV}, (keep e ts).get t = some x → e.get t = some x := by
  intro ts
  induction ts with
  | nil => intro t x h; simp [keep, Env.get] at h
  | cons q ts ih =>
    intro t x h
    simp only [keep] at h
    split at h
    · rename_i y hy
      simp only [Env.get] at h
      split at h
      · rename_i hb
        have : q = t := Nat.eq_of_beq_eq_true hb
        subst this
        rw [hy]; exact h
      · exact ih h
    · exact ih h

theorem keep_mem {e : Env} : ∀ {ts : List Nat} {t : Nat} {x : EV}, (keep e ts).get t = some x → t ∈ ts := by
  intro ts
  induction ts with
  | nil => intro t x h; simp [keep, Env.get] at h
  | cons q ts ih =>
    intro t x h
    simp only [keep] at h
    split at h
    · simp only [Env.get] at h
      split at h
      · rename_i hb
        have : q = t := Nat.eq_of_beq_eq_true hb
        simp [this]
      · exact List.mem_cons_of_mem _ (ih h)
    · exact List.mem_cons_of_mem _ (ih h)

theorem known_some {e : Env} : ∀ {ts : List Nat} {t : Nat}, t ∈ known e ts → ∃ x, e.get t = some x := by
  intro ts
  induction ts with
  | nil => intro t h; simp [known] at h
  | cons q ts ih =>
    intro t h
    simp only [known] at h
    split at h
    · rename_i x hx
      rcases List.mem_cons.1 h with rfl | h
      · exact ⟨x, hx⟩
      · exact ih h
    · exact ih h

/-- Slots that are as they were hold what they held. -/
theorem sames_ok {a : Act} {old e : Env} (hA : Agree a e) : ∀ {ts : List Nat} {l : List (Value × Value)}, sames old e ts = some l → (∀ q ∈ l, q.1 = q.2) → ∀ t ∈ ts, ∀ x, old.get t = some x → a.tmps[t]? = some x.val := by
  intro ts
  induction ts with
  | nil => intro l _ _ t ht; simp at ht
  | cons q ts ih =>
    intro l h hs t ht x hx
    simp only [sames] at h
    split at h
    · rename_i x' y' l' h1 h2 h3
      injection h with h
      subst h
      rcases List.mem_cons.1 ht with rfl | ht
      · rw [h1] at hx
        injection hx with hx
        subst hx
        rw [hA t y' h2]
        exact congrArg some (hs (y'.val, x'.val) (by simp))
      · exact ih h3 (fun q hq => hs q (by simp [hq])) t ht x hx
    · simp at h
    · rename_i h1
      rcases List.mem_cons.1 ht with rfl | ht
      · rw [h1] at hx; simp at hx
      · exact ih h hs t ht x hx
    · simp at h

/-- The values of slots, as they are. -/
def holds (a : Act) : List Nat → List Value → Prop
  | [], [] => True
  | t :: ts, v :: vs => a.tmps[t]? = some v ∧ holds a ts vs
  | _, _ => False

theorem holds_length {a : Act} : ∀ {ts : List Nat} {vs : List Value}, holds a ts vs → vs.length = ts.length := by
  intro ts
  induction ts with
  | nil => intro vs h; cases vs; rfl; exact h.elim
  | cons t ts ih => intro vs h; cases vs with
    | nil => exact h.elim
    | cons v vs => simp [ih h.2]

theorem agree_adds {a : Act} {e : Env} (hA : Agree a e) : ∀ {ts : List Nat} {vs : List Value}, holds a ts vs → Agree a (adds ts vs e) := by
  intro ts
  induction ts with
  | nil => intro vs h; cases vs; exact hA; exact h.elim
  | cons t ts ih =>
    intro vs h
    cases vs with
    | nil => exact h.elim
    | cons v vs =>
      intro q y hq
      simp only [adds, Env.get] at hq
      split at hq
      · rename_i hb
        have : t = q := Nat.eq_of_beq_eq_true hb
        subst this
        injection hq with hq
        subst hq
        exact h.1
      · exact ih h.2 q y hq

theorem vals_ok {a : Act} {e : Env} (hA : Agree a e) : ∀ {ts : List Nat} {vs : List Value}, vals e ts = some vs → holds a ts vs := by
  intro ts
  induction ts with
  | nil => intro vs h; simp only [vals, Option.some.injEq] at h; subst h; trivial
  | cons t ts ih =>
    intro vs h
    simp only [vals] at h
    split at h
    · rename_i x l h1 h2
      injection h with h
      subst h
      exact ⟨hA t x h1, ih h2⟩
    · simp at h

theorem callK_ok {a : Act} {e : Env} (hA : Agree a e) {w : World} : ∀ (ts : List Nat) (kf : Fn ts.length), (∀ t ∈ ts, t < a.tmps.size) → callK ts.length kf ts e w → ∃ vs, holds a ts vs ∧ Fn.app ts.length kf vs w := by
  intro ts
  induction ts with
  | nil => intro kf _ h; exact ⟨[], trivial, h⟩
  | cons t ts ih =>
    intro kf hb h
    simp only [List.length_cons, callK] at h
    split at h
    · rename_i x hx
      obtain ⟨vs, h1, h2⟩ := ih (kf x.val) (fun q hq => hb q (by simp [hq])) h
      exact ⟨x.val :: vs, ⟨hA t x hx, h1⟩, h2⟩
    · have hlt := hb t (by simp)
      obtain ⟨vs, h1, h2⟩ := ih (kf (a.tmps[t]'hlt)) (fun q hq => hb q (by simp [hq])) (h _)
      exact ⟨_ :: vs, ⟨Array.getElem?_eq_getElem hlt, h1⟩, h2⟩

theorem bits_lt (m : Nat) : ∀ (n t : Nat), t ∈ bits m n → t < n := by
  intro n
  induction n with
  | zero => intro t h; simp [bits] at h
  | succ n ih =>
    intro t h
    simp only [bits] at h
    split at h
    · rcases List.mem_append.1 h with h | h
      · have := ih t h; omega
      · simp at h; omega
    · have := ih t h; omega

theorem agree_keep {a : Act} {old : Env} {ts : List Nat} (h : ∀ t ∈ ts, ∀ x, old.get t = some x → a.tmps[t]? = some x.val) : Agree a (keep old ts) :=
  fun t x hx => h t (keep_mem hx) x (keep_get hx)


/-- A loop, by a number that falls. -/
theorem wp_loopN {c : Code} {Q : Exit → Act → World → Prop} (J : Nat → Act → World → Prop) {m0 : Nat} {a : Act} {w : World} (h0 : J m0 a w)
    (round : ∀ m a w, J m a w → c.wp P (Exit.then (fun a' w' => ∃ m', m' < m ∧ J m' a' w') Q) a w) : (Code.loop c).wp P Q a w := by
  intro b k cs
  have key : ∀ (m : Nat) (a : Act) (w : World), J m a w → ∃ e a' w', Q e a' w' ∧ Arrives P (lone (b.at a (.code c :: .inLoop c :: k)) cs w) b k cs e a' w' := by
    intro m
    induction m using Nat.strongRecOn with
    | _ m ih =>
      intro a w hJ
      obtain ⟨e, a1, w1, hq, harr⟩ := round m a w hJ b (.inLoop c :: k) cs
      have out : e ≠ .normal → Q e a1 w1 → ∃ e a' w', Q e a' w' ∧ Arrives P (lone (b.at a (.code c :: .inLoop c :: k)) cs w) b k cs e a' w' :=
        fun hne hq => ⟨e, a1, w1, hq, .pass (x := .inLoop c) rfl (fun _ _ => .inl hne) harr⟩
      cases e with
      | normal =>
        obtain ⟨m', hlt, hJ'⟩ := hq
        obtain ⟨e2, a2, w2, hq2, harr2⟩ := ih m' hlt a1 w1 hJ'
        exact ⟨e2, a2, w2, hq2, .of_steps (Steps.trans harr (.one step_inLoop)) harr2⟩
      | exit id => exact out (by simp) hq
      | goto l => exact out (by simp) hq
      | ret => exact out (by simp) hq
      | panic ch => exact out (by simp) hq
      | outgrown => exact out (by simp) hq
  obtain ⟨e, a', w', hq, harr⟩ := key _ a w h0
  exact ⟨e, a', w', hq, .of_steps (.one step_loop) harr⟩

/-- A scope with labels, each with what holds where it is jumped to. -/
theorem wp_scopeN {c : Code} {Q : Exit → Act → World → Prop} (J : Nat → Nat → Act → World → Prop) {a : Act} {w : World} (jump : Nat → Bool)
    (hl : ∀ l, jump l = true → ∃ r, findLabel c l = some r) (hn : ∀ l, jump l = false → findLabel c l = none)
    (first : c.wp P (fun e a' w' => match e with | .goto l => (jump l = true ∧ ∃ m, J m l a' w') ∨ (jump l = false ∧ Q (.goto l) a' w') | e => Q e a' w') a w)
    (rest : ∀ m l r a w, findLabel c l = some r → J m l a w → r.wp P (fun e a' w' => match e with | .goto l => (jump l = true ∧ ∃ m', m' < m ∧ J m' l a' w') ∨ (jump l = false ∧ Q (.goto l) a' w') | e => Q e a' w') a w) :
    (Code.scope c).wp P Q a w := by
  intro b k cs
  have out : ∀ {fr : Frame} {w : World} {e : Exit} {a1 : Act} {w1 : World}, (∀ l, e = .goto l → jump l = false) → Q e a1 w1 → Arrives P (lone fr cs w) b (.inScope c :: k) cs e a1 w1 → ∃ e a' w', Q e a' w' ∧ Arrives P (lone fr cs w) b k cs e a' w' := by
    intro fr w e a1 w1 hg hq harr
    cases e with
    | normal => exact ⟨.normal, a1, w1, hq, Steps.trans harr (.one step_inScope)⟩
    | exit id => exact ⟨.exit id, a1, w1, hq, fun k' hk => harr k' (by simp [exitTo, hk])⟩
    | goto l => exact ⟨.goto l, a1, w1, hq, fun k' hk => harr k' (by simp [gotoIn, hn l (hg l rfl), hk])⟩
    | ret => exact ⟨_, a1, w1, hq, harr⟩
    | panic ch => exact ⟨_, a1, w1, hq, harr⟩
    | outgrown => exact ⟨_, a1, w1, hq, harr⟩
  have key : ∀ (m : Nat) (l : Nat) (r : Code) (a : Act) (w : World), findLabel c l = some r → J m l a w → ∃ e a' w', Q e a' w' ∧ Arrives P (lone (b.at a (.code r :: .inScope c :: k)) cs w) b k cs e a' w' := by
    intro m
    induction m using Nat.strongRecOn with
    | _ m ih =>
      intro l r a w hf hJ
      obtain ⟨e, a1, w1, hq, harr⟩ := rest m l r a w hf hJ b (.inScope c :: k) cs
      cases e with
      | goto l' =>
        rcases hq with ⟨hj, m', hlt, hJ'⟩ | ⟨hj, hq⟩
        · obtain ⟨r', hr'⟩ := hl l' hj
          obtain ⟨e2, a2, w2, hq2, harr2⟩ := ih m' hlt l' r' a1 w1 hr' hJ'
          exact ⟨e2, a2, w2, hq2, .of_steps (harr _ (by simp [gotoIn, hr'])) harr2⟩
        · exact out (fun l h => by injection h with h; subst h; exact hj) hq harr
      | normal => exact out (fun l h => by simp at h) hq harr
      | exit id => exact out (fun l h => by simp at h) hq harr
      | ret => exact out (fun l h => by simp at h) hq harr
      | panic ch => exact out (fun l h => by simp at h) hq harr
      | outgrown => exact out (fun l h => by simp at h) hq harr
  obtain ⟨e, a1, w1, hq, harr⟩ := first b (.inScope c :: k) cs
  have pre : ∀ {e : Exit} {a1 : Act} {w1 : World}, (∃ e a' w', Q e a' w' ∧ Arrives P (lone (b.at a (.code c :: .inScope c :: k)) cs w) b k cs e a' w') → ∃ e a' w', Q e a' w' ∧ Arrives P (lone (b.at a (.code (.scope c) :: k)) cs w) b k cs e a' w' := by
    intro _ _ _ ⟨e, a', w', hq, harr⟩
    exact ⟨e, a', w', hq, .of_steps (.one step_scope) harr⟩
  refine pre (e := e) (a1 := a1) (w1 := w1) ?_
  cases e with
  | goto l' =>
    rcases hq with ⟨hj, m', hJ'⟩ | ⟨hj, hq⟩
    · obtain ⟨r', hr'⟩ := hl l' hj
      obtain ⟨e2, a2, w2, hq2, harr2⟩ := key m' l' r' a1 w1 hr' hJ'
      exact ⟨e2, a2, w2, hq2, .of_steps (harr _ (by simp [gotoIn, hr'])) harr2⟩
    · exact out (fun l h => by injection h with h; subst h; exact hj) hq harr
  | normal => exact out (fun l h => by simp at h) hq harr
  | exit id => exact out (fun l h => by simp at h) hq harr
  | ret => exact out (fun l h => by simp at h) hq harr
  | panic ch => exact out (fun l h => by simp at h) hq harr
  | outgrown => exact out (fun l h => by simp at h) hq harr

theorem findLabel_labels : ∀ (c : Code) (l : Nat), (labelsOf c).contains l = (findLabel c l).isSome := by
  intro c
  induction c with
  | seq a b iha ihb =>
    intro l
    have ha := iha l
    have hb := ihb l
    have hap : (labelsOf a ++ labelsOf b).contains l = ((labelsOf a).contains l || (labelsOf b).contains l) := by
      rw [Bool.eq_iff_iff]; simp
    simp only [labelsOf, findLabel, hap, ha, hb]
    cases h : findLabel a l <;> simp
  | label l' =>
    intro l
    simp only [labelsOf, findLabel]
    by_cases h : l' = l
    · subst h; simp
    · have h2 : ¬ l = l' := fun e => h e.symm
      simp [h, h2]
  | _ => intro l; rfl

theorem agree_addsR {n : Nat} {ds : List Deferred} : ∀ {ts : List Nat} {vs : List Value} {tmps : Array Value} {e : Env}, vs.length = ts.length → (∀ t ∈ ts, t < n) → Agree { tmps := tmps, defers := ds } e → tmps.size = n →
    Agree { tmps := (ts.zip vs).foldl (fun t p => t.setIfInBounds p.1 p.2) tmps, defers := ds } (addsR ts vs e) ∧ ((ts.zip vs).foldl (fun t p => t.setIfInBounds p.1 p.2) tmps).size = n := by
  intro ts
  induction ts with
  | nil => intro vs tmps e hl _ h hs; cases vs <;> exact ⟨h, hs⟩
  | cons t ts ih =>
    intro vs tmps e hl ht h hs
    cases vs with
    | nil => simp at hl
    | cons v vs =>
      simp only [List.zip_cons_cons, List.foldl_cons, addsR]
      refine ih (by simpa using hl) (fun q hq => ht q (by simp [hq])) ?_ (by simp [hs])
      exact Agree.put (a := { tmps := tmps, defers := ds }) h (d := t) (by rw [hs]; exact ht t (by simp)) (.v v)

theorem vc_in (hT : Tab.ok P T) {D : Draw} (hD : DrawOk P n D) : ∀ (f : Nat) (r : Option Nat) (c : Code) (s : S) (lv : Nat) (k : Kont) (w : World) (a : Act), (r = none ∨ calm c = true) → R n a s → vc P T n D f c s lv k w → c.wpIn (fe r) 0 P (k.toQ n) a w := by
  intro f
  induction f with
  | zero => intro r c s lv k w a _ _ h; exact h.elim
  | succ f ih =>
    intro r c s lv k w a hcalm hR h
    cases c with
    | skip => exact wpIn_skip ⟨s, hR, h⟩
    | label l => exact wpIn_label ⟨s, hR, h⟩
    | exit id => exact wpIn_exit ⟨s, hR, h⟩
    | goto l => exact wpIn_goto ⟨s, hR, h⟩
    | ret => exact wpIn_ret ⟨s, hR, h⟩
    | refuse why => exact h.elim
    | rangeFunc g ps x y =>
      have hr : r = none := by rcases hcalm with h | h; exact h; simp [calm] at h
      subst hr
      simp only [vc] at h
      split at h
      · rename_i fv hc hg
        simp only [Bool.and_eq_true] at hc
        obtain ⟨hcx, hcy, hps⟩ := hc
        obtain ⟨gf, cap, rfl, hent, h⟩ := h
        have hts : ∀ t ∈ ps.toList, t < n := fun t ht => by
          have := (List.all_eq_true.1 hps) t ht
          rw [← Nat.blt_eq]; exact this
        refine wpIn_rangeFunc ?_
        intro fn _
        obtain ⟨rec, hrec⟩ : ∃ rec : LoopState → Option Code → Loop, rec = fun st pe => { state := st, pending := pe, fn, tmps := a.tmps, params := ps, assign := x, body := y, defers := w.heap.size } := ⟨_, rfl⟩
        have H := h (.loop (rec .ready none)) (.loop (rec .busy none)) (.loop (rec .exhausted none)) ((w.alloc (.deferred (some []))).alloc (.loop (rec .ready none))) rfl rfl rfl rfl ?_
        · refine ⟨w.heap.size + 1, [{ target := .collected w.heap.size, args := #[] }], (w.alloc (.deferred (some []))).alloc (.loop (rec .ready none)), { target := .fn (.func gf) cap, args := #[.func (.yield (w.heap.size + 1)) #[] #[]] },
            (w.alloc (.deferred (some []))).alloc (.loop (rec .ready none)), gf, #[.func (.yield (w.heap.size + 1)) #[] #[]] ++ cap, (w.alloc (.deferred (some []))).alloc (.loop (rec .ready none)), ?_, ?_, fun _ _ => trivial, ?_, fun h => by simp [fe, Fence.wide] at h, ?_⟩
          · rw [hrec]; exact run_enterLoop_outer _ _ _ _ _
          · simp only [resolve, hR.e.va hg]
            simp [go_sem]
          · simp [invoke, go_sem, hent.run]
          · rcases H with ⟨_, hc⟩ | ⟨v, w', h1, _⟩
            · have e1 : (Value.func (.yield (w.heap.size + 1)) #[] #[] :: cap.toList).toArray = #[.func (.yield (w.heap.size + 1)) #[] #[]] ++ cap := by
                apply Array.ext'; simp
              rw [e1] at hc
              refine (callsIn_fe hc).mono ?_
              intro e w3 he
              cases e with
              | returned v =>
                obtain ⟨hl, hK⟩ := he
                refine ⟨none, _, ?_, { e := s.e, ds := mark w.heap.size :: s.ds }, ⟨hR.e, hR.size, by simp [hR.ds]⟩, hK⟩
                have := run_endLoop (P := P) hl (by rw [hrec]; simp)
                rw [hrec] at this ⊢
                exact this
              | panicked ch => exact he.elim
              | outgrown => exact he.elim
            · rw [hent.run] at h1
              simp at h1
        · intro args W R hlen hb
          rw [app_curry _ _ _ hlen] at hb
          obtain ⟨hl, hb⟩ := hb
          have hag := agree_addsR (n := n) (ds := []) hlen hts hR.e hR.size
          have hfold : (ps.zip args.toArray).foldl (fun tmps (t, a) => tmps.setIfInBounds t a) a.tmps = (ps.toList.zip args).foldl (fun t p => t.setIfInBounds p.1 p.2) a.tmps := by
            rw [← Array.foldl_toList]
            simp
          have hy := run_yield (P := P) (args := args.toArray) hl (by rw [hrec]; simpa using hlen)
          rw [hrec] at hy
          simp only [hfold] at hy
          refine ⟨fn, _, x, y, hy, roundIn_of_wpIn (F := Fence.wide) (n := 0) trivial ?_⟩
          refine wpIn_mono (ih (some (w.heap.size + 1)) x _ _ _ W { tmps := _, defers := [] } (.inr hcx) ⟨hag.1, hag.2, rfl⟩ hb) ?_
          rintro e a1 w1 he
          cases e with
          | normal =>
            obtain ⟨s1, hR1, hl1, hb1⟩ := he
            have hbg := run_beginRound (P := P) hl1 (by rw [hrec])
            rw [hrec] at hb1 hbg
            refine ⟨_, hbg, wpIn_mono (ih (some (w.heap.size + 1)) y s1 _ _ _ a1 (.inr hcy) hR1 hb1) ?_⟩
            rintro e a2 w2 he
            cases e with
            | normal =>
              obtain ⟨s2, hR2, hl2, hb2⟩ := he
              exact ⟨_, _, run_endRound none hl2, hb2⟩
            | exit id => obtain ⟨_, _, h⟩ := he; exact h.elim
            | goto t => obtain ⟨_, _, h⟩ := he; exact h.elim
            | ret => obtain ⟨_, _, h⟩ := he; exact h.elim
            | panic ch => obtain ⟨_, _, h⟩ := he; exact h.elim
            | outgrown => exact he.elim
          | exit id => obtain ⟨_, _, h⟩ := he; exact h.elim
          | goto t => obtain ⟨_, _, h⟩ := he; exact h.elim
          | ret => obtain ⟨_, _, h⟩ := he; exact h.elim
          | panic ch => obtain ⟨_, _, h⟩ := he; exact h.elim
          | outgrown => exact he.elim
      · exact h.elim
    | region id ops draw =>
      cases draw with
      | false =>
        refine wpIn_region ?_
        have := vcOps_ok (r := r) hT (hcalm.imp (fun h => h) fun h o ho => by have := List.all_eq_true.1 h o ho; simpa using this) ops.toList 0 s a w (by simp) hR h
        rw [List.range_eq_range']
        simpa using this
      | true => exact hD r id ops s k w a hR h
    | cond c x y =>
      simp only [vc] at h
      split at h
      · rename_i hc; exact wpIn_cond_true (hR.e.ev hc) (ih r x s lv k w a (hcalm.imp (fun h => h) fun h => by simp only [calm, Bool.and_eq_true] at h; exact h.1) hR h)
      · rename_i hc; exact wpIn_cond_false (hR.e.ev hc) (ih r y s lv k w a (hcalm.imp (fun h => h) fun h => by simp only [calm, Bool.and_eq_true] at h; exact h.2) hR h)
      · rename_i c' hc
        obtain ⟨t, rfl, h1, h2⟩ := h
        have := hR.e.ev hc
        cases t
        · exact wpIn_cond_false this (ih r y s lv k w a (hcalm.imp (fun h => h) fun h => by simp only [calm, Bool.and_eq_true] at h; exact h.2) hR (h2 rfl))
        · exact wpIn_cond_true this (ih r x s lv k w a (hcalm.imp (fun h => h) fun h => by simp only [calm, Bool.and_eq_true] at h; exact h.1) hR (h1 rfl))
      · exact h.elim
    | block id c =>
      refine wpIn_block (wpIn_mono (ih r c s lv _ w a (hcalm.imp (fun h => h) fun h => by simpa only [calm] using h) hR h) ?_)
      rintro e a' w' he
      cases e with
      | exit id' =>
        obtain ⟨s', hR', h'⟩ := he
        simp only [Exit.inBlock]
        simp only at h'
        split at h'
        · rename_i hb
          rw [if_pos (Nat.eq_of_beq_eq_true hb)]
          exact ⟨s', hR', h'⟩
        · rename_i hb
          rw [if_neg (fun e => by subst e; simp at hb)]
          exact ⟨s', hR', h'⟩
      | normal => exact he
      | goto l => exact he
      | ret => exact he
      | panic ch => exact he
      | outgrown => exact he
    | seq x y =>
      simp only [vc] at h
      split at h
      · refine wpIn_seq (wpIn_mono (ih r x s _ _ w a (hcalm.imp (fun h => h) fun h => by simp only [calm, Bool.and_eq_true] at h; exact h.1) hR h) ?_)
        rintro e a' w' he
        cases e with
        | normal => obtain ⟨s', hR', h'⟩ := he; exact ih r y s' lv k w' a' (hcalm.imp (fun h => h) fun h => by simp only [calm, Bool.and_eq_true] at h; exact h.2) hR' h'
        | exit id => exact he
        | goto l => exact he
        | ret => exact he
        | panic ch => exact he
        | outgrown => exact he
      · refine wpIn_seq (wpIn_mono (ih r x s _ _ w a (hcalm.imp (fun h => h) fun h => by simp only [calm, Bool.and_eq_true] at h; exact h.1) hR h) ?_)
        rintro e a' w' he
        cases e with
        | normal =>
          obtain ⟨s', hR', h'⟩ := he
          simp only at h'
          split at h'
          · rename_i l hl
            obtain ⟨hs, hds, h'⟩ := h'
            obtain ⟨vs, hh, hk⟩ := callK_ok hR'.e _ _ (fun t ht => by rw [hR'.size]; exact bits_lt _ _ _ ht) h'
            rw [app_curry _ _ _ (holds_length hh)] at hk
            refine ih r y _ lv k w' a' (hcalm.imp (fun h => h) fun h => by simp only [calm, Bool.and_eq_true] at h; exact h.2) ⟨agree_adds (agree_keep (sames_ok hR'.e hl hs)) hh, hR'.size, ?_⟩ hk
            rw [hR'.ds, hds]
          · exact h'.elim
        | exit id => exact he
        | goto l => exact he
        | ret => exact he
        | panic ch => exact he
        | outgrown => exact he
    | loop c =>
      have hr : r = none := by rcases hcalm with h | h; exact h; simp [calm] at h
      subst hr
      refine wpIn_wide.2 ?_
      simp only [vc] at h
      split at h
      · exact h.elim
      · split at h
        · exact h.elim
        · rename_i init hinit
          obtain ⟨I, ⟨m0, h0⟩, hstep⟩ := h
          have hU : ∀ t ∈ known s.e (bits ((lpLive c lv) &&& ((lpLive c lv) ^^^ (writes c &&& (lpLive c lv)))) n), ∀ x, s.e.get t = some x → a.tmps[t]? = some x.val := fun t _ x hx => hR.e t x hx
          refine wp_loopN (fun m a' w' => a'.tmps.size = n ∧ a'.defers = s.ds ∧ (∀ t ∈ known s.e (bits ((lpLive c lv) &&& ((lpLive c lv) ^^^ (writes c &&& (lpLive c lv)))) n), ∀ x, s.e.get t = some x → a'.tmps[t]? = some x.val) ∧
            ∃ vs, holds a' (known s.e (bits (writes c &&& (lpLive c lv)) n)) vs ∧ I m vs w') (m0 := m0) ⟨hR.size, hR.ds, hU, init, vals_ok hR.e hinit, h0⟩ ?_
          rintro m a' w' ⟨hsz, hds, hU', vs, hh, hI⟩
          have hb := allFn_app _ _ _ (hstep m) vs w' (holds_length hh) hI
          rw [app_curry _ _ _ (holds_length hh)] at hb
          refine wp_mono (wpIn_wide.1 <| ih none c { e := adds _ vs (keep s.e _), ds := s.ds } _ _ w' a' (.inl rfl) ⟨agree_adds (agree_keep hU') hh, hsz, hds⟩ hb) ?_
          rintro e a2 w2 he
          cases e with
          | normal =>
            obtain ⟨s', hR', h'⟩ := he
            simp only at h'
            split at h'
            · rename_i l vs' hl hv
              obtain ⟨hs, hds', m', hlt, hI'⟩ := h'
              exact ⟨m', hlt, hR'.size, by rw [hR'.ds, hds'], sames_ok hR'.e hl hs, vs', vals_ok hR'.e hv, hI'⟩
            · exact h'.elim
          | exit id => exact he
          | goto l => exact he
          | ret => exact he
          | panic ch => exact he
          | outgrown => exact he
    | scope c =>
      have hr : r = none := by rcases hcalm with h | h; exact h; simp [calm] at h
      subst hr
      refine wpIn_wide.2 ?_
      simp only [vc] at h
      split at h
      · exact h.elim
      · obtain ⟨J, hfirst, hrest⟩ := h
        refine wp_scopeN (fun m l a' w' => a'.tmps.size = n ∧ a'.defers = s.ds ∧ (∀ t ∈ known s.e (bits ((scLive c lv) &&& ((scLive c lv) ^^^ (writes c &&& (scLive c lv)))) n), ∀ x, s.e.get t = some x → a'.tmps[t]? = some x.val) ∧
            ∃ vs, holds a' (bits (writes c &&& (scLive c lv)) n) vs ∧ J m l vs w') (fun l => (labelsOf c).contains l) ?_ ?_ ?_ ?_
        · intro l hl
          rw [findLabel_labels] at hl
          exact Option.isSome_iff_exists.1 hl
        · intro l hl
          rw [findLabel_labels] at hl
          simpa using hl
        · refine wp_mono (wpIn_wide.1 <| ih none c s _ _ w a (.inl rfl) hR hfirst) ?_
          rintro e a2 w2 he
          cases e with
          | goto l =>
            obtain ⟨s', hR', h'⟩ := he
            simp only at h'
            split at h'
            · rename_i hc
              split at h'
              · rename_i q hl
                obtain ⟨hs, hds', h'⟩ := h'
                obtain ⟨vs', hh', hk⟩ := callK_ok hR'.e _ _ (fun t ht => by rw [hR'.size]; exact bits_lt _ _ _ ht) h'
                rw [app_curry _ _ _ (holds_length hh')] at hk
                obtain ⟨m', hJ'⟩ := hk
                exact .inl ⟨hc, m', hR'.size, by rw [hR'.ds, hds'], sames_ok hR'.e hl hs, vs', hh', hJ'⟩
              · exact h'.elim
            · rename_i hc
              exact .inr ⟨hc, s', hR', h'⟩
          | normal => exact he
          | exit id => exact he
          | ret => exact he
          | panic ch => exact he
          | outgrown => exact he
        · rintro m l r a' w' hf ⟨hsz, hds, hU', vs, hh, hJ⟩
          have hmem : l ∈ labelsOf c := by
            have := findLabel_labels c l
            rw [hf] at this
            simpa using this
          have hb := allFn_app _ _ _ (hrest _ (List.mem_map.2 ⟨l, hmem, rfl⟩) m) vs w' (holds_length hh) hJ
          simp only [hf] at hb
          rw [app_curry _ _ _ (holds_length hh)] at hb
          refine wp_mono (wpIn_wide.1 <| ih none r { e := adds _ vs (keep s.e _), ds := s.ds } _ _ w' a' (.inl rfl) ⟨agree_adds (agree_keep hU') hh, hsz, hds⟩ hb) ?_
          rintro e a2 w2 he
          cases e with
          | goto l =>
            obtain ⟨s', hR', h'⟩ := he
            simp only at h'
            split at h'
            · rename_i hc
              split at h'
              · rename_i q hl
                obtain ⟨hs, hds', h'⟩ := h'
                obtain ⟨vs', hh', hk⟩ := callK_ok hR'.e _ _ (fun t ht => by rw [hR'.size]; exact bits_lt _ _ _ ht) h'
                rw [app_curry _ _ _ (holds_length hh')] at hk
                obtain ⟨m', hlt, hJ'⟩ := hk
                exact .inl ⟨hc, m', hlt, hR'.size, by rw [hR'.ds, hds'], sames_ok hR'.e hl hs, vs', hh', hJ'⟩
              · exact h'.elim
            · rename_i hc
              exact .inr ⟨hc, s', hR', h'⟩
          | normal => exact he
          | exit id => exact he
          | ret => exact he
          | panic ch => exact he
          | outgrown => exact he
theorem vc_ok (hT : Tab.ok P T) {D : Draw} (hD : DrawOk P n D) (f : Nat) (c : Code) (s : S) (lv : Nat) (k : Kont) (w : World) (a : Act) (hR : R n a s) (h : vc P T n D f c s lv k w) : c.wp P (k.toQ n) a w :=
  wpIn_wide.1 (vc_in hT hD f none c s lv k w a (.inl rfl) hR h)
end
end Go.Vx
