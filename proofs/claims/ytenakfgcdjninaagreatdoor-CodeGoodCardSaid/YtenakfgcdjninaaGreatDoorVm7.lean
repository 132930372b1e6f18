/- Part 7 of the walk: a calculus of conditions over the model, and contracts of the functions of the program, in their plain form. No claim stands here. -/
import Derived.Test.YtenakfgcdjninaaGreatDoorVm6
import Derived.Below
import Derived.Carry
import Derived.ChangeMaps5
import Derived.Laws.StructEq
import Derived.Laws.Tables
import Derived.SliceStrings
import Derived.Tactics
import Derived.Tactics2
set_option linter.unusedVariables false
set_option linter.unusedSimpArgs false
set_option linter.unusedSectionVars false
set_option linter.unnecessarySimpa false
namespace Go.Vx

mutual
/-- Of each name that a part uses: is it set? -/
def flg : Node → List Bool
  | .mk k _ _ _ _ ks => bif Nat.beq k 5 then [false] else bif Nat.beq k 6 then true :: flgs ks else flgs ks
def flgs : List Node → List Bool
  | [] => []
  | k :: ks => flg k ++ flgs ks
end
def UseOK (slots : List (List UInt8)) (u : Use) : Prop := (u.kind = 2 → u.index < 3) ∧ (u.kind = 4 → u.index < slots.length) ∧ (u.write = true → u.kind = 3 ∨ u.kind = 4)
/-- Names that fit. -/
def UF (slots : List (List UInt8)) (l : List Use) (fl : List Bool) : Prop := l.map (·.write) = fl ∧ ∀ u ∈ l, UseOK slots u
theorem UF.app {slots : List (List UInt8)} {a b : List Use} {x y : List Bool} (h : UF slots a x) (h' : UF slots b y) : UF slots (a ++ b) (x ++ y) :=
  ⟨by rw [List.map_append, h.1, h'.1], fun u hu => by
    rcases List.mem_append.1 hu with hu | hu
    · exact h.2 u hu
    · exact h'.2 u hu⟩

theorem find_ok {slots : List (List UInt8)} {t : List UInt8} {fs : List Fr} : ((findS slots t fs).1.kind = 2 → (findS slots t fs).1.index < 3) ∧ ((findS slots t fs).1.kind = 4 → (findS slots t fs).1.index < slots.length) ∧ (findS slots t fs).1.write = false := by
  unfold findS
  cases hf : fixedS t with
  | some x =>
    obtain ⟨k, i⟩ := x
    simp only []
    unfold fixedS at hf
    rcases cond_or hf with ⟨_, h⟩ | ⟨_, hf⟩
    · injection h with h; injection h with h1 h2; subst h1 h2; simp
    rcases cond_or hf with ⟨_, h⟩ | ⟨_, hf⟩
    · injection h with h; injection h with h1 h2; subst h1 h2; simp
    rcases cond_or hf with ⟨_, h⟩ | ⟨_, hf⟩
    · injection h with h; injection h with h1 h2; subst h1 h2; simp
    rcases cond_or hf with ⟨_, h⟩ | ⟨_, hf⟩
    · injection h with h; injection h with h1 h2; subst h1 h2; simp
    rcases cond_or hf with ⟨_, h⟩ | ⟨_, hf⟩
    · injection h with h; injection h with h1 h2; subst h1 h2; simp
    · simp at hf
  | none =>
    simp only []
    cases hF : findF t fs 0 with
    | some x => obtain ⟨d, k, a⟩ := x; simp
    | none =>
      simp only []
      cases hi : idxT t slots 0 with
      | some k =>
        have := idxT_some hi
        simp only []
        exact ⟨fun h => absurd h (by simp), fun _ => by omega, trivial⟩
      | none =>
        simp only []
        cases capB t
        · exact ⟨fun h => absurd h (by simp), fun h => absurd h (by simp), trivial⟩
        · exact ⟨fun h => absurd h (by simp), fun h => absurd h (by simp), trivial⟩

def FlgP (slots : List (List UInt8)) (n : Node) : Prop := ∀ fs to acc acc', partU slots n fs to acc = .ok acc' → ∃ l, acc' = acc ++ l ∧ UF slots l (flg n)
theorem partsU_flg {slots : List (List UInt8)} {ks : List Node} (ih : ∀ x ∈ ks, FlgP slots x) : ∀ fs rcv first acc acc', partsU slots ks fs rcv first acc = .ok acc' → ∃ l, acc' = acc ++ l ∧ UF slots l (flgs ks) := by
  induction ks with
  | nil =>
    intro fs rcv first acc acc' h
    simp only [partsU] at h
    injection h with h
    exact ⟨[], by simp [h], rfl, by simp⟩
  | cons k ks ihk =>
    intro fs rcv first acc acc' h
    simp only [partsU] at h
    cases h1 : partU slots k fs (rcv && first) acc with
    | error p => rw [h1] at h; simp at h
    | ok a =>
      rw [h1] at h
      obtain ⟨l1, rfl, hu1⟩ := ih k (by simp) _ _ _ _ h1
      obtain ⟨l2, rfl, hu2⟩ := ihk (fun x hx => ih x (by simp [hx])) _ _ _ _ _ h
      refine ⟨l1 ++ l2, by simp, ?_⟩
      simp only [flgs]
      exact hu1.app hu2
theorem partU_flg {slots : List (List UInt8)} : ∀ n : Node, FlgP slots n := by
  refine Node.ind fun k t p n ns ks ih => ?_
  intro fs to acc acc' h
  simp only [partU] at h
  simp only [flg]
  have hfo := find_ok (slots := slots) (t := t) (fs := fs)
  cases h5 : Nat.beq k 5
  · rw [h5] at h
    simp only [cond_false] at h ⊢
    cases h6 : Nat.beq k 6
    · rw [h6] at h
      simp only [cond_false] at h ⊢
      rcases cond_or h with ⟨_, h⟩ | ⟨_, h⟩
      · rcases cond_or h with ⟨_, h⟩ | ⟨_, h⟩
        · exact partsU_flg ih _ _ _ _ _ h
        · simp at h
      · exact partsU_flg ih _ _ _ _ _ h
    · rw [h6] at h
      simp only [cond_true] at h ⊢
      rcases cond_or h with ⟨_, h⟩ | ⟨hb, h⟩
      · simp at h
      · obtain ⟨l, rfl, hu⟩ := partsU_flg ih _ _ _ _ _ h
        refine ⟨{ (findS slots t fs).1 with pos := p, write := true } :: l, by simp, ?_⟩
        refine UF.app (a := [_]) (x := [true]) ⟨rfl, fun u hu => ?_⟩ hu
        rw [List.mem_singleton.1 hu]
        refine ⟨hfo.1, hfo.2.1, fun _ => ?_⟩
        simp only [Bool.or_eq_false_iff, Bool.and_eq_false_iff, bne_eq_false_iff_eq] at hb
        exact hb.2
  · rw [h5] at h
    simp only [cond_true] at h ⊢
    rcases cond_or h with ⟨_, h⟩ | ⟨_, h⟩
    · simp at h
    · injection h with h
      subst h
      refine ⟨_, rfl, ?_, fun u hu => ?_⟩
      · simp [hfo.2.2]
      · rw [List.mem_singleton.1 hu]
        exact ⟨hfo.1, hfo.2.1, fun hw => by simp only [hfo.2.2] at hw; simp at hw⟩
theorem resolve_flg {slots : List (List UInt8)} {k p n : Nat} {t : List UInt8} {ns : List (List UInt8)} {ks : List Node} {l : List Use} (h : resolveS slots (.mk k t p n ns ks) = .ok l) : UF slots l (flgs ks) := by
  simp only [resolveS] at h
  rcases cond_or h with ⟨_, h⟩ | ⟨_, h⟩
  · obtain ⟨l', rfl, hu⟩ := partsU_flg (fun x _ => partU_flg x) _ _ _ _ _ h
    simpa using hu
  · simp at h
theorem flgs_nil {ks : List Node} (h : ∀ x ∈ ks, flg x = []) : flgs ks = [] := by
  induction ks with
  | nil => rfl
  | cons k ks ih =>
    simp only [flgs, h k (by simp), List.nil_append]
    exact ih fun x hx => h x (by simp [hx])
theorem lit_flg : ∀ n : Node, LitN n → flg n = [] := by
  refine Node.ind fun k t p n ns ks ih => ?_
  intro h
  cases h with
  | leaf h => rcases h with rfl | rfl | rfl | rfl <;> rfl
  | list h =>
    simp only [flg]
    exact flgs_nil fun x hx => ih x hx (h x hx)
end Go.Vx
namespace Go.Vx

def SelLn (t : List UInt8) (n : Nat) : Prop := SelOK t n ∧ t.length ≤ 33554432
mutual
def SelC : Node → Prop
  | .mk k t _ _ _ ks => (k = 7 → SelLn t (ks.length - 1)) ∧ (k = 9 → SelLn t ks.length) ∧ SelCs ks ∧ (k = 10 ∨ k = 12 → RetL ks)
def SelCs : List Node → Prop
  | [] => True
  | k :: ks => SelC k ∧ SelCs ks
end
theorem selCs_of {ks : List Node} (ih : ∀ x ∈ ks, SelN x → msr x ≤ 33554432 → SelC x) (h : SelNs ks) (hm : msrs ks ≤ 33554432) : SelCs ks := by
  induction ks with
  | nil => exact trivial
  | cons k ks ihk =>
    simp only [SelNs] at h
    simp only [msrs] at hm
    exact ⟨ih k (by simp) h.1 (by omega), ihk (fun x hx => ih x (by simp [hx])) h.2 (by omega)⟩
theorem selC_of : ∀ n : Node, SelN n → msr n ≤ 33554432 → SelC n := by
  refine Node.ind fun k t p n ns ks ih => ?_
  intro h hm
  simp only [SelN] at h
  simp only [msr] at hm
  simp only [SelC]
  exact ⟨fun h7 => ⟨h.1 h7, by omega⟩, fun h9 => ⟨h.2.1 h9, by omega⟩, selCs_of ih h.2.2.1 (by omega), h.2.2.2⟩
end Go.Vx
namespace Go.Vx

def pushB (op : Nat) : Bool := Nat.beq op 0 || (Nat.beq op 1 || (Nat.beq op 3 || (Nat.beq op 5 || (Nat.beq op 6 || (Nat.beq op 7 || Nat.beq op 10)))))
/-- How high the values stand behind a step. -/
def stepS (n : Nat) (i : Ins) : Option Nat :=
  bif pushB i.op then some (n + 1)
  else bif Nat.beq i.op 2 || Nat.beq i.op 4 then (bif Nat.blt n 1 then none else some n)
  else bif Nat.beq i.op 8 || Nat.beq i.op 9 then (bif Nat.ble n i.b then none else some (n - i.b))
  else bif Nat.beq i.op 11 then (bif Nat.blt n 1 then none else some (n + 1))
  else bif Nat.beq i.op 12 || (Nat.beq i.op 13 || Nat.beq i.op 14) then (bif Nat.blt n 1 then none else some (n - 1))
  else none
def hgt : List Ins → Nat → Option Nat
  | [], n => some n
  | i :: l, n => match stepS n i with
    | none => none
    | some n' => hgt l n'
theorem hgt_app {a b : List Ins} {n n1 n2 : Nat} (h : hgt a n = some n1) (h' : hgt b n1 = some n2) : hgt (a ++ b) n = some n2 := by
  induction a generalizing n with
  | nil => simp only [hgt] at h; injection h with h; subst h; exact h'
  | cons i a ih =>
    simp only [List.cons_append, hgt] at h ⊢
    cases hs : stepS n i with
    | none => rw [hs] at h; simp at h
    | some q => rw [hs] at h; exact ih h

/-- What steps may name. -/
structure NamB (m : MK) (sl : Nat) (i : Ins) : Prop where
  lit : i.op = 0 → i.a < m.lits.length
  slot : i.op = 3 ∨ i.op = 4 → i.a < sl
  glob : i.op = 5 → i.a < m.names.length
  con : i.op = 7 → i.a < 3
  sel : i.op = 8 ∨ i.op = 9 → ∃ t, m.sels[i.a]? = some t ∧ SelLn t i.b
  blk : i.op = 10 → i.a < m.units.length
/-- Lists grow. -/
structure Gw (m r : MK) : Prop where
  units : m.units.length ≤ r.units.length
  lits : m.lits.length ≤ r.lits.length
  names : m.names.length ≤ r.names.length
  sels : ∃ s, r.sels = m.sels ++ s
theorem Gw.refl (m : MK) : Gw m m := ⟨Nat.le_refl _, Nat.le_refl _, Nat.le_refl _, [], by simp⟩
theorem Gw.trans {m r q : MK} (h : Gw m r) (h' : Gw r q) : Gw m q := by
  obtain ⟨s, hs⟩ := h.sels
  obtain ⟨s', hs'⟩ := h'.sels
  exact ⟨Nat.le_trans h.units h'.units, Nat.le_trans h.lits h'.lits, Nat.le_trans h.names h'.names, s ++ s', by rw [hs', hs, List.append_assoc]⟩
theorem NamB.mono {m r : MK} {sl : Nat} {i : Ins} (h : NamB m sl i) (hg : Gw m r) : NamB r sl i := by
  refine ⟨fun h0 => Nat.lt_of_lt_of_le (h.lit h0) hg.lits, h.slot, fun h0 => Nat.lt_of_lt_of_le (h.glob h0) hg.names, h.con, fun h0 => ?_, fun h0 => Nat.lt_of_lt_of_le (h.blk h0) hg.units⟩
  obtain ⟨t, h1, h2⟩ := h.sel h0
  obtain ⟨s, hs⟩ := hg.sels
  refine ⟨t, ?_, h2⟩
  rw [hs, List.getElem?_append_left (List.getElem?_eq_some_iff.1 h1).1]
  exact h1
def noEnd (i : Ins) : Prop := i.op ≠ 13 ∧ i.op ≠ 14
/-- A unit that checks. -/
structure GoodU (m : MK) (sl : Nat) (x : CU) : Prop where
  run : hgt x.ins 0 = some 0
  args : x.args ≤ x.names
  last : ∃ l i, x.ins = l ++ [i] ∧ (i.op = 13 ∨ i.op = 14) ∧ ∀ j ∈ l, noEnd j
  nam : ∀ i ∈ x.ins, NamB m sl i
theorem GoodU.mono {m r : MK} {sl : Nat} {x : CU} (h : GoodU m sl x) (hg : Gw m r) : GoodU r sl x := ⟨h.run, h.args, h.last, fun i hi => (h.nam i hi).mono hg⟩

/-- One maker behind another one: steps of one unit more, and units that check. -/
structure St (sl u n n' : Nat) (m r : MK) : Prop where
  gw : Gw m r
  other : ∀ j, j < m.units.length → j ≠ u → r.units[j]? = m.units[j]?
  new : ∀ j x, m.units.length ≤ j → r.units[j]? = some x → GoodU r sl x
  own : ∃ l, (∀ x, m.units[u]? = some x → r.units[u]? = some ⟨x.args, x.names, x.ins ++ l⟩) ∧ hgt l n = some n' ∧ (∀ i ∈ l, noEnd i) ∧ ∀ i ∈ l, NamB r sl i
theorem St.refl (sl u n : Nat) (m : MK) : St sl u n n m m :=
  ⟨.refl m, fun _ _ _ => rfl, fun j x h1 h2 => by have := (List.getElem?_eq_some_iff.1 h2).1; omega, [], fun x hx => by simpa using hx, rfl, by simp, by simp⟩
theorem St.trans {sl u n n1 n2 : Nat} {m r q : MK} (hu : u < m.units.length) (h : St sl u n n1 m r) (h' : St sl u n1 n2 r q) : St sl u n n2 m q := by
  refine ⟨h.gw.trans h'.gw, fun j hj hne => (h'.other j (Nat.lt_of_lt_of_le hj h.gw.units) hne).trans (h.other j hj hne), fun j x hj hx => ?_, ?_⟩
  · by_cases hlt : j < r.units.length
    · have e := h'.other j hlt (by omega)
      rw [e] at hx
      exact (h.new j x hj hx).mono h'.gw
    · exact h'.new j x (by omega) hx
  · obtain ⟨l, h1, h2, h3, h4⟩ := h.own
    obtain ⟨l', h1', h2', h3', h4'⟩ := h'.own
    refine ⟨l ++ l', fun x hx => ?_, hgt_app h2 h2', fun i hi => ?_, fun i hi => ?_⟩
    · have := h1' _ (h1 x hx)
      simpa using this
    · rcases List.mem_append.1 hi with hi | hi
      · exact h3 i hi
      · exact h3' i hi
    · rcases List.mem_append.1 hi with hi | hi
      · exact (h4 i hi).mono h'.gw
      · exact h4' i hi
theorem St.lt {sl u n n1 : Nat} {m r : MK} (h : St sl u n n1 m r) {u' : Nat} (hu : u' < m.units.length) : u' < r.units.length := Nat.lt_of_lt_of_le hu h.gw.units

theorem modU_at (l : List CU) (u : Nat) (i : Ins) : (∀ j, j ≠ u → (modU l u i)[j]? = l[j]?) ∧ ∀ x, l[u]? = some x → (modU l u i)[u]? = some ⟨x.args, x.names, x.ins ++ [i]⟩ := by
  induction l generalizing u with
  | nil => exact ⟨fun j _ => rfl, fun x h => by simp at h⟩
  | cons y l ih =>
    cases u with
    | zero =>
      refine ⟨fun j hj => ?_, fun x hx => ?_⟩
      · cases j with
        | zero => omega
        | succ j => simp [modU]
      · simp at hx; subst hx; rfl
    | succ u =>
      refine ⟨fun j hj => ?_, fun x hx => ?_⟩
      · cases j with
        | zero => rfl
        | succ j => simpa [modU] using (ih u).1 j (by omega)
      · simpa [modU] using (ih u).2 x (by simpa using hx)

/-- A step more. -/
theorem st_add {sl u n n' : Nat} {m m2 : MK} {i : Ins} (hm : m2.units = m.units) (hg : Gw m m2) (hs : stepS n i = some n') (hno : noEnd i) (hn : NamB m2 sl i) : St sl u n n' m (addI m2 u i) := by
  have hl : (addI m2 u i).units.length = m.units.length := by
    show (modU m2.units u i).length = _
    rw [modU_len, hm]
  have hg2 : Gw m2 (addI m2 u i) := ⟨by rw [hl, hm]; exact Nat.le_refl _, Nat.le_refl _, Nat.le_refl _, [], by simp [addI]⟩
  obtain ⟨h1, h2⟩ := modU_at m2.units u i
  refine ⟨hg.trans hg2, fun j _ hne => ?_, fun j x hj hx => ?_, [i], fun x hx => ?_, by simp only [hgt, hs], fun j hj => ?_, fun j hj => ?_⟩
  · exact (h1 j hne).trans (by rw [hm])
  · have := (List.getElem?_eq_some_iff.1 hx).1
    omega
  · exact h2 x (by rw [hm]; exact hx)
  · rw [List.mem_singleton.1 hj]; exact hno
  · rw [List.mem_singleton.1 hj]; exact hn.mono hg2
theorem uses_add (m : MK) (u : Nat) (i : Ins) : (addI m u i).uses = m.uses := rfl

theorem onceS_at (l : List (List UInt8)) (t : List UInt8) : (∃ s, (onceS l t).1 = l ++ s) ∧ (onceS l t).1[(onceS l t).2]? = some t := by
  unfold onceS
  cases hx : idxT t l 0 with
  | none => exact ⟨⟨[t], rfl⟩, by simp⟩
  | some k =>
    refine ⟨⟨[], by simp⟩, ?_⟩
    have : ∀ (l : List (List UInt8)) (i k : Nat), idxT t l i = some k → i ≤ k ∧ l[k - i]? = some t := by
      intro l
      induction l with
      | nil => intro i k h; simp [idxT] at h
      | cons x l ih =>
        intro i k h
        simp only [idxT] at h
        cases hb : x == t
        · rw [hb] at h
          obtain ⟨h1, h2⟩ := ih _ _ h
          refine ⟨by omega, ?_⟩
          rw [show k - i = (k - (i + 1)) + 1 from by omega]
          simpa using h2
        · rw [hb] at h
          simp at h
          subst h
          simp [beq_iff_eq.1 hb]
    simpa using (this l 0 k hx).2

theorem st_lit {sl u n : Nat} (m : MK) (t : List UInt8) : St sl u n (n + 1) m (addI { m with lits := (onceS m.lits t).1 } u ⟨0, (onceS m.lits t).2, 0⟩) := by
  obtain ⟨⟨s, hs⟩, ha⟩ := onceS_at m.lits t
  refine st_add (m := m) (m2 := { m with lits := (onceS m.lits t).1 }) rfl ⟨Nat.le_refl _, by simp only [hs]; simp, Nat.le_refl _, [], by simp⟩ rfl ⟨by simp, by simp⟩ ?_
  exact ⟨fun _ => (List.getElem?_eq_some_iff.1 ha).1, fun h => by simp at h, fun h => by simp at h, fun h => by simp at h, fun h => by simp at h, fun h => by simp at h⟩
theorem st_send {sl u n : Nat} (m : MK) (sup : Bool) (t : List UInt8) (k : Nat) (ht : SelLn t k) : St sl u (n + 1 + k) (n + 1) m (sendC u sup t k m) := by
  obtain ⟨⟨s, hs⟩, ha⟩ := onceS_at m.sels t
  have hst : ∀ op, op = 8 ∨ op = 9 → stepS (n + 1 + k) ⟨op, (onceS m.sels t).2, k⟩ = some (n + 1) := by
    intro op hop
    have hb : Nat.ble (n + 1 + k) k = false := by
      cases hb : Nat.ble (n + 1 + k) k with
      | false => rfl
      | true => have := Nat.le_of_ble_eq_true hb; omega
    rcases hop with rfl | rfl
    · simp only [stepS, hb]
      show some (n + 1 + k - k) = _
      rw [Nat.add_sub_cancel]
    · simp only [stepS, hb]
      show some (n + 1 + k - k) = _
      rw [Nat.add_sub_cancel]
  unfold sendC
  refine st_add (m := m) (m2 := { m with sels := (onceS m.sels t).1 }) rfl ⟨Nat.le_refl _, Nat.le_refl _, Nat.le_refl _, s, hs⟩ (hst _ (by cases sup <;> simp)) ⟨by cases sup <;> simp, by cases sup <;> simp⟩ ?_
  refine ⟨fun h => ?_, fun h => ?_, fun h => ?_, fun h => ?_, fun _ => ⟨t, ha, ht⟩, fun h => ?_⟩
  all_goals (cases sup <;> simp at h)

theorem uf_head {slots : List (List UInt8)} {m : MK} {b : Bool} {fl : List Bool} (h : UF slots m.uses (b :: fl)) : (useH m).write = b ∧ UseOK slots (useH m) ∧ UF slots (popU m).uses fl := by
  obtain ⟨h1, h2⟩ := h
  cases hu : m.uses with
  | nil => rw [hu] at h1; simp at h1
  | cons x l =>
    rw [hu] at h1 h2
    simp only [List.map_cons, List.cons.injEq] at h1
    have e : useH m = x := by unfold useH; rw [hu]; rfl
    have e2 : (popU m).uses = l := by show m.uses.tail = l; rw [hu]; rfl
    rw [e, e2]
    exact ⟨h1.1, h2 x (by simp), h1.2, fun y hy => h2 y (by simp [hy])⟩

theorem st_name {slots : List (List UInt8)} {u n : Nat} (m : MK) (h : UseOK slots (useH m)) : St slots.length u n (n + 1) m (nameC u m) := by
  have hp : Gw m (popU m) := ⟨Nat.le_refl _, Nat.le_refl _, Nat.le_refl _, [], by simp [popU]⟩
  unfold nameC
  simp only []
  obtain ⟨h2, h4, _⟩ := h
  cases e2 : ((useH m).kind == 2)
  · cases e3 : ((useH m).kind == 3)
    · cases e4 : ((useH m).kind == 4)
      · cases e5 : ((useH m).kind == 5)
        · exact st_add (m := m) (m2 := popU m) rfl hp rfl ⟨by simp, by simp⟩ ⟨fun h => by simp at h, fun h => by simp at h, fun h => by simp at h, fun h => by simp at h, fun h => by simp at h, fun h => by simp at h⟩
        · obtain ⟨⟨s, hs⟩, ha⟩ := onceS_at m.names (useH m).name
          refine st_add (m := m) (m2 := { popU m with names := (onceS m.names (useH m).name).1 }) rfl ⟨Nat.le_refl _, Nat.le_refl _, by simp only [hs]; simp, [], by simp [popU]⟩ rfl ⟨by simp, by simp⟩ ?_
          exact ⟨fun h => by simp at h, fun h => by simp at h, fun _ => (List.getElem?_eq_some_iff.1 ha).1, fun h => by simp at h, fun h => by simp at h, fun h => by simp at h⟩
      · refine st_add (m := m) (m2 := popU m) rfl hp rfl ⟨by simp, by simp⟩ ⟨fun h => by simp at h, fun _ => h4 (beq_iff_eq.1 e4), fun h => by simp at h, fun h => by simp at h, fun h => by simp at h, fun h => by simp at h⟩
    · refine st_add (m := m) (m2 := popU m) rfl hp rfl ⟨by simp, by simp⟩ ⟨fun h => by simp at h, fun h => by simp at h, fun h => by simp at h, fun h => by simp at h, fun h => by simp at h, fun h => by simp at h⟩
  · refine st_add (m := m) (m2 := popU m) rfl hp rfl ⟨by simp, by simp⟩ ⟨fun h => by simp at h, fun h => by simp at h, fun h => by simp at h, fun _ => h2 (beq_iff_eq.1 e2), fun h => by simp at h, fun h => by simp at h⟩
theorem name_uses (m : MK) (u : Nat) : (nameC u m).uses = (popU m).uses := by
  unfold nameC
  simp only []
  cases ((useH m).kind == 2)
  · cases ((useH m).kind == 3)
    · cases ((useH m).kind == 4)
      · cases ((useH m).kind == 5) <;> rfl
      · rfl
    · rfl
  · rfl
theorem nam_plain {m : MK} {sl op a b : Nat} (h : op = 1 ∨ op = 2 ∨ op = 6 ∨ op = 11 ∨ op = 12 ∨ op = 13 ∨ op = 14) : NamB m sl ⟨op, a, b⟩ := by
  refine ⟨fun h0 => ?_, fun h0 => ?_, fun h0 => ?_, fun h0 => ?_, fun h0 => ?_, fun h0 => ?_⟩
  all_goals (simp only [] at h0; omega)
end Go.Vx
namespace Go.Vx

/-- A unit's steps, up to their end. -/
structure StE (sl u n : Nat) (m r : MK) : Prop where
  gw : Gw m r
  other : ∀ j, j < m.units.length → j ≠ u → r.units[j]? = m.units[j]?
  new : ∀ j x, m.units.length ≤ j → r.units[j]? = some x → GoodU r sl x
  own : ∃ l i, (∀ x, m.units[u]? = some x → r.units[u]? = some ⟨x.args, x.names, x.ins ++ (l ++ [i])⟩) ∧ hgt (l ++ [i]) n = some 0 ∧ (i.op = 13 ∨ i.op = 14) ∧ (∀ j ∈ l, noEnd j) ∧ ∀ j ∈ l ++ [i], NamB r sl j
theorem St.fin {sl u n op : Nat} {m r : MK} (hu : u < m.units.length) (h : St sl u n 1 m r) (hop : op = 13 ∨ op = 14) : StE sl u n m (addI r u ⟨op, 0, 0⟩) := by
  have hl : (addI r u ⟨op, 0, 0⟩).units.length = r.units.length := modU_len _ _ _
  have hg2 : Gw r (addI r u ⟨op, 0, 0⟩) := ⟨by rw [hl]; exact Nat.le_refl _, Nat.le_refl _, Nat.le_refl _, [], by simp [addI]⟩
  obtain ⟨h1, h2⟩ := modU_at r.units u ⟨op, 0, 0⟩
  obtain ⟨l, h3, h4, h5, h6⟩ := h.own
  refine ⟨h.gw.trans hg2, fun j hj hne => (h1 j hne).trans (h.other j hj hne), fun j x hj hx => ?_, l, ⟨op, 0, 0⟩, fun x hx => ?_, ?_, hop, h5, fun j hj => ?_⟩
  · have e := h1 j (by omega)
    have hx : (modU r.units u ⟨op, 0, 0⟩)[j]? = some x := hx
    rw [e] at hx
    exact (h.new j x hj hx).mono hg2
  · have := h2 _ (h3 x hx)
    simp only [List.append_assoc] at this
    exact this
  · refine hgt_app h4 ?_
    rcases hop with rfl | rfl <;> rfl
  · rcases List.mem_append.1 hj with hj | hj
    · exact (h6 j hj).mono hg2
    · rw [List.mem_singleton.1 hj]
      exact nam_plain (by omega)
theorem St.fin2 {sl u n n1 : Nat} {m r q : MK} (hu : u < m.units.length) (h : St sl u n n1 m r) (h' : StE sl u n1 r q) : StE sl u n m q := by
  obtain ⟨l, h3, h4, h5, h6⟩ := h.own
  obtain ⟨l', i, h3', h4', h5', h6', h7'⟩ := h'.own
  refine ⟨h.gw.trans h'.gw, fun j hj hne => (h'.other j (Nat.lt_of_lt_of_le hj h.gw.units) hne).trans (h.other j hj hne), fun j x hj hx => ?_, l ++ l', i, fun x hx => ?_, ?_, h5', fun j hj => ?_, fun j hj => ?_⟩
  · by_cases hlt : j < r.units.length
    · have e := h'.other j hlt (by omega)
      rw [e] at hx
      exact (h.new j x hj hx).mono h'.gw
    · exact h'.new j x (by omega) hx
  · have := h3' _ (h3 x hx)
    simpa using this
  · rw [List.append_assoc]
    exact hgt_app h4 h4'
  · rcases List.mem_append.1 hj with hj | hj
    · exact h5 j hj
    · exact h6' j hj
  · rw [List.append_assoc] at hj
    rcases List.mem_append.1 hj with hj | hj
    · exact (h6 j hj).mono h'.gw
    · exact h7' j hj

variable {slots : List (List UInt8)}
def LG (slots : List (List UInt8)) (n : Node) : Prop := OkE n → SelC n → ∀ u m h rest, u < m.units.length → UF slots m.uses (flg n ++ rest) → St slots.length u h (h + 1) m (partC n u m) ∧ UF slots (partC n u m).uses rest
def LM (slots : List (List UInt8)) (n : Node) : Prop := OkM n → SelC n → ∀ u sup m h rest, u < m.units.length → UF slots m.uses (flg n ++ rest) → St slots.length u (h + 1) (h + 1) m (msgC n u sup m) ∧ UF slots (msgC n u sup m).uses rest
def LS (slots : List (List UInt8)) (n : Node) : Prop := OkS n → SelC n → ∀ u m h rest, u < m.units.length → UF slots m.uses (flg n ++ rest) →
  (Nat.beq n.kind 11 = false → St slots.length u h (h + 1) m (partC n u m) ∧ UF slots (partC n u m).uses rest) ∧ (Nat.beq n.kind 11 = true → St slots.length u h (h + 1) m (retC n u m) ∧ UF slots (retC n u m).uses rest)

theorem lg_parts {ks : List Node} (ih : ∀ x ∈ ks, LG slots x) (hok : ∀ x ∈ ks, OkE x) (hs : SelCs ks) : ∀ u m h rest, u < m.units.length → UF slots m.uses (flgs ks ++ rest) → St slots.length u h (h + ks.length) m (partsC ks u m) ∧ UF slots (partsC ks u m).uses rest := by
  induction ks with
  | nil => intro u m h rest hu hf; exact ⟨St.refl _ _ _ _, hf⟩
  | cons k ks ihk =>
    intro u m h rest hu hf
    simp only [SelCs] at hs
    simp only [flgs, List.append_assoc] at hf
    obtain ⟨h1, h2⟩ := ih k (by simp) (hok k (by simp)) hs.1 u m h _ hu hf
    obtain ⟨h3, h4⟩ := ihk (fun x hx => ih x (by simp [hx])) (fun x hx => hok x (by simp [hx])) hs.2 u _ (h + 1) rest (h1.lt hu) h2
    simp only [partsC, List.length_cons]
    refine ⟨?_, h4⟩
    rw [show h + (ks.length + 1) = h + 1 + ks.length from by omega]
    exact h1.trans hu h3
theorem lg_send {ks : List Node} {t : List UInt8} (ih : ∀ x ∈ ks, LG slots x) (hok : ∀ x ∈ ks, OkE x) (hs : SelCs ks) (ht : SelLn t ks.length) : ∀ u sup m h rest, u < m.units.length → UF slots m.uses (flgs ks ++ rest) →
    St slots.length u (h + 1) (h + 1) m (sendC u sup t ks.length (partsC ks u m)) ∧ UF slots (sendC u sup t ks.length (partsC ks u m)).uses rest := by
  intro u sup m h rest hu hf
  obtain ⟨h1, h2⟩ := lg_parts ih hok hs u m (h + 1) rest hu hf
  exact ⟨h1.trans hu (st_send _ sup t ks.length ht), h2⟩
theorem st_plain {sl u n n' : Nat} {m : MK} {op a b : Nat} (h : op = 1 ∨ op = 2 ∨ op = 6 ∨ op = 11 ∨ op = 12) (hs : stepS n ⟨op, a, b⟩ = some n') : St sl u n n' m (addI m u ⟨op, a, b⟩) :=
  st_add rfl (Gw.refl m) hs ⟨by simp only []; omega, by simp only []; omega⟩ (nam_plain (by omega))
theorem lg_casc {ms : List Node} (ih : ∀ x ∈ ms, LM slots x) (hok : ∀ x ∈ ms, OkM x) (hs : SelCs ms) (hne : ms ≠ []) : ∀ u sup m h rest, u < m.units.length → UF slots m.uses (flgs ms ++ rest) →
    St slots.length u (h + 1) (h + 1) m (cascC ms u sup m) ∧ UF slots (cascC ms u sup m).uses rest := by
  induction ms with
  | nil => simp at hne
  | cons k ks ihk =>
    intro u sup m h rest hu hf
    simp only [SelCs] at hs
    simp only [flgs, List.append_assoc] at hf
    simp only [cascC]
    cases ks with
    | nil =>
      simp only [List.isEmpty_nil, cond_true]
      simp only [flgs, List.nil_append] at hf
      exact ih k (by simp) (hok k (by simp)) hs.1 u sup m h rest hu hf
    | cons k2 ks =>
      simp only [List.isEmpty_cons, cond_false]
      have h1 : St slots.length u (h + 1) (h + 1 + 1) m (addI m u ⟨11, 0, 0⟩) := st_plain (by omega) rfl
      obtain ⟨h2, h3⟩ := ih k (by simp) (hok k (by simp)) hs.1 u sup (addI m u ⟨11, 0, 0⟩) (h + 1) _ (h1.lt hu) hf
      have h12 := h1.trans hu h2
      have h4 : St slots.length u (h + 1 + 1) (h + 1) (msgC k u sup (addI m u ⟨11, 0, 0⟩)) (addI (msgC k u sup (addI m u ⟨11, 0, 0⟩)) u ⟨12, 0, 0⟩) := st_plain (by omega) rfl
      have h14 := h12.trans hu h4
      obtain ⟨h5, h6⟩ := ihk (fun x hx => ih x (by simp [hx])) (fun x hx => hok x (by simp [hx])) hs.2 (by simp) u sup _ h rest (h14.lt hu) h3
      exact ⟨h14.trans hu h5, h6⟩

theorem lg_stmts {ks : List Node} (ih : ∀ x ∈ ks, LS slots x) (hok : ∀ x ∈ ks, OkS x) (hs : SelCs ks) (hr : RetL ks) : ∀ u first m rest, u < m.units.length → UF slots m.uses (flgs ks ++ rest) →
    ((stmtsC ks u first m).2 = false → St slots.length u (bif first then 0 else 1) (bif first && ks.isEmpty then 0 else 1) m (stmtsC ks u first m).1) ∧ ((stmtsC ks u first m).2 = true → StE slots.length u (bif first then 0 else 1) m (stmtsC ks u first m).1) ∧ UF slots (stmtsC ks u first m).1.uses rest := by
  induction ks with
  | nil =>
    intro u first m rest hu hf
    simp only [stmtsC]
    refine ⟨fun _ => ?_, by simp, hf⟩
    cases first
    · exact St.refl _ _ _ _
    · exact St.refl _ _ _ _
  | cons k ks ihk =>
    intro u first m rest hu hf
    simp only [SelCs] at hs
    obtain ⟨hr1, hr2⟩ := hr
    simp only [flgs, List.append_assoc] at hf
    simp only [stmtsC, List.isEmpty_cons, Bool.and_false, cond_false]
    have h0 : St slots.length u (bif first then 0 else 1) 0 m (bif first then m else addI m u ⟨12, 0, 0⟩) := by
      cases first
      · exact st_plain (by omega) rfl
      · exact St.refl _ _ _ _
    have hf0 : UF slots (bif first then m else addI m u ⟨12, 0, 0⟩).uses (flg k ++ (flgs ks ++ rest)) := by
      cases first
      · exact hf
      · exact hf
    generalize (bif first then m else addI m u ⟨12, 0, 0⟩) = m1 at h0 hf0
    have hu1 := h0.lt hu
    obtain ⟨hl1, hl2⟩ := ih k (by simp) (hok k (by simp)) hs.1 u m1 0 _ hu1 hf0
    cases hk : Nat.beq k.kind 11
    · simp only [cond_false]
      obtain ⟨h1, h2⟩ := hl1 hk
      have h01 := h0.trans hu h1
      obtain ⟨h3, h4, h5⟩ := ihk (fun x hx => ih x (by simp [hx])) (fun x hx => hok x (by simp [hx])) hs.2 hr2 u false _ rest (h01.lt hu) h2
      simp only [Bool.false_and, cond_false] at h3 h4
      exact ⟨fun h => h01.trans hu (h3 h), fun h => h01.fin2 hu (h4 h), h5⟩
    · simp only [cond_true]
      obtain ⟨h1, h2⟩ := hl2 hk
      have hks : ks = [] := by
        rcases hr1 with h | h
        · exact h
        · exact absurd (Nat.eq_of_beq_eq_true hk) h
      subst hks
      simp only [flgs, List.nil_append] at h2
      exact ⟨fun h => by simp at h, fun _ => (h0.trans hu h1).fin hu (.inr rfl), h2⟩

/-- A unit more, that checks. -/
structure Un (sl : Nat) (m r : MK) : Prop where
  gw : Gw m r
  more : m.units.length < r.units.length
  other : ∀ j, j < m.units.length → r.units[j]? = m.units[j]?
  new : ∀ j x, m.units.length ≤ j → r.units[j]? = some x → GoodU r sl x
theorem un_unitOf {k n nn kids : Nat} {t : List UInt8} {ks : List Node} (ih : ∀ x ∈ ks, LS slots x) (hok : ∀ x ∈ ks, OkS x) (hs : SelCs ks) (hr : RetL ks) (hn : n ≤ nn) (hk : kids = ks.length) (m : MK) (rest : List Bool) (hf : UF slots m.uses (flgs ks ++ rest)) :
    Un slots.length m (unitOf k t n nn kids (fun u' m' => stmtsC ks u' true m') m) ∧ UF slots (unitOf k t n nn kids (fun u' m' => stmtsC ks u' true m') m).uses rest := by
  subst hk
  unfold unitOf
  simp only []
  obtain ⟨m1, hm1⟩ : ∃ m1 : MK, m1 = { m with units := m.units ++ [⟨n, nn, []⟩] } := ⟨_, rfl⟩
  have hl1 : m1.units.length = m.units.length + 1 := by rw [hm1]; simp
  have hf1 : UF slots m1.uses (flgs ks ++ rest) := by rw [hm1]; exact hf
  have hx1 : m1.units[m.units.length]? = some ⟨n, nn, []⟩ := by rw [hm1]; simp
  have ho1 : ∀ j, j < m.units.length → m1.units[j]? = m.units[j]? := fun j hj => by rw [hm1]; simp [List.getElem?_append_left hj]
  have hg1 : Gw m m1 := ⟨by omega, by rw [hm1]; exact Nat.le_refl _, by rw [hm1]; exact Nat.le_refl _, [], by rw [hm1]; simp⟩
  rw [← hm1]
  have hu1 : m.units.length < m1.units.length := by omega
  obtain ⟨h1, h2, h3⟩ := lg_stmts ih hok hs hr m.units.length true m1 rest hu1 hf1
  simp only [Bool.true_and, cond_true] at h1 h2
  generalize stmtsC ks m.units.length true m1 = r at h1 h2 h3
  have un : ∀ q, StE slots.length m.units.length 0 m1 q → Un slots.length m q := by
    intro q h
    obtain ⟨l, i, h4, h5, h6, h7, h8⟩ := h.own
    have h4 := h4 _ hx1
    simp only [List.nil_append] at h4
    refine ⟨hg1.trans h.gw, by have := h.gw.units; omega, fun j hj => (h.other j (by omega) (by omega)).trans (ho1 j hj), fun j x hj hx => ?_⟩
    by_cases hj2 : j = m.units.length
    · subst hj2
      rw [h4] at hx
      injection hx with hx
      subst hx
      exact ⟨h5, hn, ⟨l, i, rfl, h6, h7⟩, h8⟩
    · exact h.new j x (by omega) hx
  cases hr2 : r.2
  · have h1 := h1 hr2
    have hu2 := h1.lt hu1
    cases Nat.beq k 12 && !t.isEmpty
    · simp only [cond_false]
      cases ks with
      | nil =>
        simp only [List.isEmpty_nil, cond_true] at h1
        simp only [List.length_nil, Nat.beq_refl, cond_true]
        have h4 : St slots.length m.units.length 0 1 r.1 (addI r.1 m.units.length ⟨7, 0, 0⟩) := st_add rfl (Gw.refl _) rfl ⟨by simp, by simp⟩ ⟨fun h => by simp at h, fun h => by simp at h, fun h => by simp at h, fun _ => by simp, fun h => by simp at h, fun h => by simp at h⟩
        exact ⟨un _ ((h1.trans hu1 h4).fin hu1 (.inl rfl)), h3⟩
      | cons x ks =>
        simp only [List.isEmpty_cons, cond_false] at h1
        have : Nat.beq (x :: ks).length 0 = false := rfl
        rw [this]
        exact ⟨un _ (h1.fin hu1 (.inl rfl)), h3⟩
    · simp only [cond_true]
      have h4 : St slots.length m.units.length 0 0 m1 (bif Nat.beq ks.length 0 then r.1 else addI r.1 m.units.length ⟨12, 0, 0⟩) ∧ UF slots (bif Nat.beq ks.length 0 then r.1 else addI r.1 m.units.length ⟨12, 0, 0⟩).uses rest := by
        cases ks with
        | nil =>
          simp only [List.isEmpty_nil, cond_true] at h1
          exact ⟨h1, h3⟩
        | cons x ks =>
          simp only [List.isEmpty_cons, cond_false] at h1
          have : Nat.beq (x :: ks).length 0 = false := rfl
          rw [this]
          exact ⟨h1.trans hu1 (st_plain (by omega) rfl), h3⟩
      generalize (bif Nat.beq ks.length 0 then r.1 else addI r.1 m.units.length ⟨12, 0, 0⟩) = q at h4
      have h5 : St slots.length m.units.length 0 1 q (addI q m.units.length ⟨6, 0, 0⟩) := st_plain (by omega) rfl
      exact ⟨un _ ((h4.1.trans hu1 h5).fin hu1 (.inr rfl)), h4.2⟩
  · simp only [cond_true]
    exact ⟨un _ (h2 hr2), h3⟩

def LQ (slots : List (List UInt8)) (n : Node) : Prop := LG slots n ∧ LM slots n ∧ LS slots n
theorem lg_all : ∀ n, LQ slots n := by
  refine Node.ind fun k t p n ns ks ih => ?_
  have ihG : ∀ x ∈ ks, LG slots x := fun x hx => (ih x hx).1
  have hG : LG slots (.mk k t p n ns ks) := by
    intro hok hsel u m h rest hu hf
    have hsel0 := hsel
    simp only [SelC] at hsel
    cases hok with
    | leaf h1 =>
      have e : flg (.mk k t p 0 [] []) = [] := by rcases h1 with rfl | rfl | rfl <;> rfl
      rw [e, List.nil_append] at hf
      have e2 : partC (.mk k t p 0 [] []) u m = addI { m with lits := (onceS m.lits (litS (.mk k t p 0 [] []))).1 } u ⟨0, (onceS m.lits (litS (.mk k t p 0 [] []))).2, 0⟩ := by rcases h1 with rfl | rfl | rfl <;> rfl
      rw [e2]
      exact ⟨st_lit m _, hf⟩
    | list h1 =>
      have e : flg (.mk 4 [] p 0 [] ks) = [] := lit_flg _ (.list h1)
      rw [e, List.nil_append] at hf
      have e2 : partC (.mk 4 [] p 0 [] ks) u m = addI { m with lits := (onceS m.lits (litS (.mk 4 [] p 0 [] ks))).1 } u ⟨0, (onceS m.lits (litS (.mk 4 [] p 0 [] ks))).2, 0⟩ := by simp [partC]
      rw [e2]
      exact ⟨st_lit m _, hf⟩
    | var =>
      have e : flg (.mk 5 t p 0 [] []) = [false] := rfl
      rw [e] at hf
      have e2 : partC (.mk 5 t p 0 [] []) u m = nameC u m := by simp only [partC]; rfl
      rw [e2, name_uses]
      obtain ⟨_, h2, h3⟩ := uf_head (by simpa using hf)
      exact ⟨st_name m h2, h3⟩
    | @set _ _ e he =>
      have e1 : flg (.mk 6 t p 0 [] [e]) = true :: (flg e ++ []) := rfl
      rw [e1, List.append_nil, List.cons_append] at hf
      obtain ⟨hw, huo, hf2⟩ := uf_head hf
      have hp : Gw m (popU m) := ⟨Nat.le_refl _, Nat.le_refl _, Nat.le_refl _, [], by simp [popU]⟩
      simp only [SelCs] at hsel
      obtain ⟨h1, h2⟩ := ihG e (by simp) he hsel.2.2.1.1 u (popU m) h rest hu hf2
      have h1' : St slots.length u h (h + 1) m (partC e u (popU m)) := ⟨hp.trans h1.gw, h1.other, h1.new, h1.own⟩
      have e2 : partC (.mk 6 t p 0 [] [e]) u m = bif (useH m).kind == 3 then addI (partC e u (popU m)) u ⟨2, (useH m).depth, (useH m).index⟩ else addI (partC e u (popU m)) u ⟨4, (useH m).index, 0⟩ := by simp only [partC, headC]; rfl
      rw [e2]
      cases hk : ((useH m).kind == 3)
      · have h4 : (useH m).kind = 4 := by
          rcases huo.2.2 hw with h3 | h4
          · rw [h3] at hk; simp at hk
          · exact h4
        refine ⟨h1'.trans hu (st_add rfl (Gw.refl _) rfl ⟨by simp, by simp⟩ ⟨fun h => by simp at h, fun _ => huo.2.1 h4, fun h => by simp at h, fun h => by simp at h, fun h => by simp at h, fun h => by simp at h⟩), h2⟩
      · exact ⟨h1'.trans hu (st_plain (by omega) rfl), h2⟩
    | @send _ _ r ks hr hks =>
      have e1 : flg (.mk 7 t p 0 [] (r :: ks)) = flg r ++ flgs ks := rfl
      rw [e1, List.append_assoc] at hf
      simp only [SelCs, List.length_cons, Nat.add_sub_cancel] at hsel
      obtain ⟨h1, h2⟩ := ihG r (by simp) hr hsel.2.2.1.1 u m h _ hu hf
      obtain ⟨h3, h4⟩ := lg_send (fun x hx => ihG x (by simp [hx])) hks hsel.2.2.1.2 (hsel.1 trivial) u (isSuper r) _ h rest (h1.lt hu) h2
      have e2 : partC (.mk 7 t p 0 [] (r :: ks)) u m = sendC u (isSuper r) t ks.length (partsC ks u (partC r u m)) := by simp only [partC, partsC, superH, List.length_cons, Nat.add_sub_cancel]; rfl
      rw [e2]
      exact ⟨h1.trans hu h3, h4⟩
    | @casc _ r ms hr hne hms =>
      have e1 : flg (.mk 8 [] p 0 [] (r :: ms)) = flg r ++ flgs ms := rfl
      rw [e1, List.append_assoc] at hf
      simp only [SelCs] at hsel
      obtain ⟨h1, h2⟩ := ihG r (by simp) hr hsel.2.2.1.1 u m h _ hu hf
      obtain ⟨h3, h4⟩ := lg_casc (fun x hx => (ih x (by simp [hx])).2.1) hms hsel.2.2.1.2 hne u (isSuper r) _ h rest (h1.lt hu) h2
      have e2 : partC (.mk 8 [] p 0 [] (r :: ms)) u m = cascC ms u (isSuper r) (partC r u m) := by simp only [partC, cascT]; rfl
      rw [e2]
      exact ⟨h1.trans hu h3, h4⟩
    | blk hnn hks =>
      have e1 : flg (.mk 10 [] p n ns ks) = flgs ks := rfl
      rw [e1] at hf
      have e2 : partC (.mk 10 [] p n ns ks) u m = unitOf 10 [] n ns.length ks.length (fun u' m' => stmtsC ks u' true m') (addI m u ⟨10, m.units.length, 0⟩) := by simp only [partC]; rfl
      rw [e2]
      have hf' : UF slots (addI m u ⟨10, m.units.length, 0⟩).uses (flgs ks ++ rest) := hf
      obtain ⟨h1, h2⟩ := un_unitOf (k := 10) (t := []) (n := n) (fun x hx => (ih x hx).2.2) hks hsel.2.2.1 (hsel.2.2.2 (.inl rfl)) hnn rfl (addI m u ⟨10, m.units.length, 0⟩) rest hf'
      generalize unitOf 10 [] n ns.length ks.length (fun u' m' => stmtsC ks u' true m') (addI m u ⟨10, m.units.length, 0⟩) = r at h1 h2
      refine ⟨?_, h2⟩
      have hl : (addI m u ⟨10, m.units.length, 0⟩).units.length = m.units.length := modU_len _ _ _
      have hg : Gw m (addI m u ⟨10, m.units.length, 0⟩) := ⟨by rw [hl]; exact Nat.le_refl _, Nat.le_refl _, Nat.le_refl _, [], by simp [addI]⟩
      obtain ⟨h3, h4⟩ := modU_at m.units u ⟨10, m.units.length, 0⟩
      refine ⟨hg.trans h1.gw, fun j hj hne => (h1.other j (by omega)).trans (h3 j hne), fun j x hj hx => h1.new j x (by omega) hx, [⟨10, m.units.length, 0⟩], fun x hx => (h1.other u (by omega)).trans (h4 x hx), rfl, fun j hj => ?_, fun j hj => ?_⟩
      · rw [List.mem_singleton.1 hj]; exact ⟨by simp, by simp⟩
      · rw [List.mem_singleton.1 hj]
        exact ⟨fun h => by simp at h, fun h => by simp at h, fun h => by simp at h, fun h => by simp at h, fun h => by simp at h, fun _ => by have := h1.more; simp only []; omega⟩
  refine ⟨hG, ?_, ?_⟩
  · intro hok hsel u sup m h rest hu hf
    simp only [SelC] at hsel
    cases hok with
    | mk hks =>
      have e1 : flg (.mk 9 t p 0 [] ks) = flgs ks := rfl
      rw [e1] at hf
      have e2 : msgC (.mk 9 t p 0 [] ks) u sup m = sendC u sup t ks.length (partsC ks u m) := by simp [msgC]
      rw [e2]
      exact lg_send ihG hks hsel.2.2.1 (hsel.2.1 rfl) u sup m h rest hu hf
  · intro hok hsel u m h rest hu hf
    cases hok with
    | expr he =>
      refine ⟨fun _ => hG he hsel u m h rest hu hf, fun hk => ?_⟩
      rw [okE_kind he] at hk
      simp at hk
    | @ret _ e he =>
      refine ⟨fun hk => by simp [Node.kind] at hk, fun _ => ?_⟩
      have e1 : flg (.mk 11 [] p 0 [] [e]) = flg e ++ [] := rfl
      rw [e1, List.append_nil] at hf
      have e2 : retC (.mk 11 [] p 0 [] [e]) u m = partC e u m := by simp [retC, headC]
      rw [e2]
      simp only [SelC, SelCs] at hsel
      exact ihG e (by simp) he hsel.2.2.1.1 u m h rest hu hf

/-- All units check. -/
theorem good_make {n : Node} {m : MK} (hok : OkU n) (hs : SelC n) (h : makeS slots n = .ok m) : 0 < m.units.length ∧ ∀ x ∈ m.units, GoodU m slots.length x := by
  unfold makeS at h
  cases hr : resolveS slots n with
  | error p => rw [hr] at h; simp at h
  | ok l =>
    rw [hr] at h
    injection h with h
    subst h
    cases hok with
    | @mk p nn t ns ks hn hks =>
      have hf := resolve_flg hr
      simp only [SelC] at hs
      obtain ⟨h1, _⟩ := un_unitOf (k := 12) (t := t) (n := nn) (fun x _ => (lg_all x).2.2) hks hs.2.2.1 (hs.2.2.2 (.inr trivial)) hn rfl ⟨[], [], [], [], l⟩ [] (by simpa using hf)
      have e : unitC (.mk 12 t p nn ns ks) ⟨[], [], [], [], l⟩ = unitOf 12 t nn ns.length ks.length (fun u' m' => stmtsC ks u' true m') ⟨[], [], [], [], l⟩ := rfl
      rw [e]
      refine ⟨Nat.lt_of_le_of_lt (Nat.zero_le _) h1.more, fun x hx => ?_⟩
      obtain ⟨j, hj⟩ := List.getElem?_of_mem hx
      exact h1.new j x (Nat.zero_le _) hj
theorem good_code {s : Except (Nat × Nat) Node} {sel : List UInt8} {m : MK} (h : codeS slots s = .ok (sel, m)) (hs : ∀ n, s = .ok n → OkU n ∧ SelC n) : 0 < m.units.length ∧ ∀ x ∈ m.units, GoodU m slots.length x := by
  unfold codeS at h
  cases s with
  | error x => simp at h
  | ok n =>
    simp only [] at h
    cases hm : makeS slots n with
    | error p => rw [hm] at h; simp at h
    | ok m' =>
      rw [hm] at h
      injection h with h
      injection h with _ h
      subst h
      exact good_make (hs n rfl).1 (hs n rfl).2 hm
theorem good_compile {s : List UInt8} {sel : List UInt8} {m : MK} (h : compileS slots s = .ok (sel, m)) : 0 < m.units.length ∧ ∀ x ∈ m.units, GoodU m slots.length x :=
  good_code h fun _ hn => ⟨(parse_shape hn).1, selC_of _ (parse_sel hn) (parse_shape hn).2⟩
theorem good_method {s : List UInt8} {sel : List UInt8} {m : MK} (h : methS slots s = .ok (sel, m)) : 0 < m.units.length ∧ ∀ x ∈ m.units, GoodU m slots.length x :=
  good_code h fun _ hn => ⟨(method_shape hn).1, selC_of _ (method_sel hn) (method_shape hn).2⟩
end Go.Vx
namespace Go.Vx
open Go Go.Proofs
variable {R : Ending → World → Prop} {g : G} {w : World} {H hp T : Hp}

theorem UI.len {us : List CU} {cs : List Value} (h : UI g us cs) : cs.length = us.length * 3 := by
  induction h with
  | nil => rfl
  | cons _ _ ih => simp only [List.length_cons, ih]; omega
theorem UI.snoc {us : List CU} {cs : List Value} (h : UI g us cs) {u : CU} {v : Value} (hv : Sl g 3 v u.ins.length (insZ u.ins)) : UI g (us ++ [u]) (cs ++ [i64 (u.args : Int), i64 (u.names : Int), v]) := by
  induction h with
  | nil => exact .cons hv .nil
  | cons hi _ ih => exact .cons hi ih
theorem UI.get {us : List CU} {cs : List Value} (h : UI g us cs) {i : Nat} {x : CU} (hx : us[i]? = some x) : ∃ v, Sl g 3 v x.ins.length (insZ x.ins) ∧ (cs.drop (i * 3)).take 3 = [i64 (x.args : Int), i64 (x.names : Int), v] := by
  induction h generalizing i with
  | nil => simp at hx
  | @cons u us v cs hi hr ih =>
    cases i with
    | zero => simp at hx; subst hx; exact ⟨v, hi, by simp⟩
    | succ i =>
      obtain ⟨v', h1, h2⟩ := ih (i := i) (by simpa using hx)
      refine ⟨v', h1, ?_⟩
      rw [← h2, Nat.succ_mul, Nat.add_comm, ← List.drop_drop]
      rfl
/-- A unit is found. -/
theorem UI.at {us : List CU} {cU : List Value} {vU : Value} (hI : UI g us cU) (hU : Sl g 3 vU us.length cU) {i : Nat} {x : CU} (hx : us[i]? = some x) (hS : Sat g w H) {K : Value → World → Prop}
    (hk : ∀ b o v, g.cell? b o = some (i64 (x.args : Int)) → g.cell? b (o + 1) = some (i64 (x.names : Int)) → g.cell? b (o + 2) = some v → Sl g 3 v x.ins.length (insZ x.ins) → K (ptr b o) w) : Vx.ia 3 vU (i64 ((i : Nat) : Int)) K w := by
  obtain ⟨v, hv, hc⟩ := hI.get hx
  refine Sl.at hU hS (List.getElem?_eq_some_iff.1 hx).1 (by decide) fun b o h => ?_
  rw [hc] at h
  exact hk b o v (h 0 _ rfl) (h 1 _ rfl) (h 2 _ rfl) hv
theorem insZ_get {l : List Ins} {j : Nat} {x : Ins} (hx : l[j]? = some x) : ((insZ l).drop (j * 3)).take 3 = insC x := by
  induction l generalizing j with
  | nil => simp at hx
  | cons y l ih =>
    cases j with
    | zero => simp at hx; subst hx; rfl
    | succ j =>
      rw [← ih (j := j) (by simpa using hx), Nat.succ_mul, Nat.add_comm, ← List.drop_drop]
      rfl
/-- A step is found. -/
theorem insAt {l : List Ins} {v : Value} (hv : Sl g 3 v l.length (insZ l)) {j : Nat} {x : Ins} (hx : l[j]? = some x) (hS : Sat g w H) {K : Value → World → Prop}
    (hk : ∀ b o, (∀ q y, (insC x)[q]? = some y → g.cell? b (o + q) = some y) → K (ptr b o) w) : Vx.ia 3 v (i64 ((j : Nat) : Int)) K w := by
  refine Sl.at hv hS (List.getElem?_eq_some_iff.1 hx).1 (by decide) fun b o h => ?_
  rw [insZ_get hx] at h
  exact hk b o h
theorem insZ_take {l : List Ins} {j : Nat} {x : Ins} (hx : l[j]? = some x) : insZ (l.take j) ++ insC x = insZ (l.take (j + 1)) := by
  rw [← insZ_snoc]
  congr 1
  rw [List.take_add_one, hx]
  rfl

/-- A list of texts is copied. -/
theorem ap_copy {vL : Value} {l : List (List UInt8)} (hL : SS g vL l) (hl : l.length ≤ 1073741824) (hS : Sat g w H) {K : Value → World → Prop}
    (hk : ∀ g' v' w', g.le g' → SS g' v' l → Sat g' w' H → K v' w') : Vx.ap 9 1 16 [.string ⟨#[]⟩] (.slice none 0 0) vL K w := by
  have h1 : allOne (l.map str) = true := by
    clear hL hl hk
    induction l with
    | nil => rfl
    | cons x l ih => simpa [allOne, str] using ⟨rfl, ih⟩
  refine Sat.ap (e := 9) (sz := 1) (n := 0) (hp := []) (cs := []) (m := l.length) (news := l.map str) hS .nil rfl (hS.srcI hL) (by simp) h1 (by omega) (by omega) fun v' hp' w' hg h => ?_
  rw [Nat.zero_add, List.nil_append] at hg
  obtain ⟨g', h1, h2, h3⟩ := hg.freeze h
  exact hk g' v' w' h1 h3 h2

theorem c_taken {cv : List Value} {sel : List UInt8} {m : MK} (hC : CodeR g cv sel m) (hm : tot m ≤ 1073741824) (hS : Sat g w H)
    (hR : ∀ g' cv' w', g.le g' → CodeR g' cv' sel m → Sat g' w' H → R (.returned (.agg cv'.toArray)) w') : Tr P F.law10_taken [.agg cv.toArray] w R := by
  apply t_law10_taken
  unfold d_law10_taken
  obtain ⟨vU, cU, vL, vN, vS, rfl, hI, hU, hL, hN, hSe⟩ := hC
  have e : (Value.agg [str sel, vU, vL, vN, vS].toArray).cells.toList = [str sel, vU, vL, vN, vS] := by simp [Value.cells]
  rw [e]
  have q1 := hU.one
  unfold tot at hm
  refine hS.al fun b1 w1 h1 => h1.al fun b2 w2 h2 => ?_
  have h2 : Sat g w2 ((b2, .cells cZ.toArray Ty.ref10_Code) :: (b1, .cells [str sel, vU, vL, vN, vS].toArray Ty.code_Code) :: H) := h2
  try simp only [↓E1, ↓E2, ↓E3, Nat.reduceAdd]
  rw [h2.ld1 0 _ (by simp)]
  refine bdI (cs := [str sel, .slice none 0 0, .slice none 0 0, .slice none 0 0, .slice none 0 0]) rfl ?_
  refine h2.al fun b3 w3 h3 => ?_
  have h3 : Sat g w3 ((b3, .cells cZ.toArray Ty.ref10_Code) :: (b2, .cells cZ.toArray Ty.ref10_Code) :: (b1, .cells [str sel, vU, vL, vN, vS].toArray Ty.code_Code) :: H) := h3
  refine st_all (c := [str sel, .slice none 0 0, .slice none 0 0, .slice none 0 0, .slice none 0 0]) (c2 := cZ) h3 rfl rfl rfl fun w4 h4 => ?_
  try simp only [↓E1, ↓E2, ↓E3, Nat.reduceAdd]
  rw [h4.ld0 2 _ (by simp)]
  try simp only [↓E1, ↓E2, ↓E3, Nat.reduceAdd]
  rw [h4.ld2 2 _ (by simp)]
  try simp only [↓E1, ↓E2, ↓E3, Nat.reduceAdd]
  refine ap_copy hL (by omega) h4 fun g5 vL5 w5 hg5 hL5 h5 => ?_
  have uL : vL5.cells = #[vL5] ∧ one vL5 = true := by obtain ⟨a, c, rfl, _⟩ := id hL5; exact ⟨rfl, rfl⟩
  try simp only [↓E1, ↓E2, ↓E3, Nat.reduceAdd]
  refine st_one h5 uL.1 uL.2 (by simp) fun w6 h6 => ?_
  simp only [List.set_cons_succ, List.set_cons_zero] at h6
  try simp only [↓E1, ↓E2, ↓E3, Nat.reduceAdd]
  rw [h6.ld0 3 _ (by simp)]
  try simp only [↓E1, ↓E2, ↓E3, Nat.reduceAdd]
  rw [h6.ld2 3 _ (by simp)]
  try simp only [↓E1, ↓E2, ↓E3, Nat.reduceAdd]
  refine ap_copy (hN.mono hg5) (by omega) h6 fun g7 vN7 w7 hg7 hN7 h7 => ?_
  have uN : vN7.cells = #[vN7] ∧ one vN7 = true := by obtain ⟨a, c, rfl, _⟩ := id hN7; exact ⟨rfl, rfl⟩
  try simp only [↓E1, ↓E2, ↓E3, Nat.reduceAdd]
  refine st_one h7 uN.1 uN.2 (by simp) fun w8 h8 => ?_
  simp only [List.set_cons_succ, List.set_cons_zero] at h8
  try simp only [↓E1, ↓E2, ↓E3, Nat.reduceAdd]
  rw [h8.ld0 4 _ (by simp)]
  try simp only [↓E1, ↓E2, ↓E3, Nat.reduceAdd]
  rw [h8.ld2 4 _ (by simp)]
  try simp only [↓E1, ↓E2, ↓E3, Nat.reduceAdd]
  refine ap_copy (hSe.mono (hg5.trans hg7)) (by omega) h8 fun g9 vS9 w9 hg9 hS9 h9 => ?_
  have uS : vS9.cells = #[vS9] ∧ one vS9 = true := by obtain ⟨a, c, rfl, _⟩ := id hS9; exact ⟨rfl, rfl⟩
  try simp only [↓E1, ↓E2, ↓E3, Nat.reduceAdd]
  refine st_one h9 uS.1 uS.2 (by simp) fun w10 h10 => ?_
  simp only [List.set_cons_succ, List.set_cons_zero] at h10
  try simp only [↓E1, ↓E2, ↓E3, Nat.reduceAdd]
  have hg9' : g.le g9 := hg5.trans (hg7.trans hg9)
  have hL9 := hL5.mono (hg7.trans hg9)
  have hN9 := hN7.mono hg9
  clear h9 h8 h7 h6 h5 h4 h3 h2 h1 hg5 hg7 hg9 hL5 hN7
  refine lp1 (fun q x w' => ∃ i g' vU' cU' hpU, x = i64 ((i : Nat) : Int) ∧ q = m.units.length - i ∧ i ≤ m.units.length ∧ g9.le g' ∧ UI g' (m.units.take i) cU' ∧ Grow Ty.ref10_Unit 3 vU' i cU' hpU ∧
      Sat g' w' ((b3, .cells [str sel, vU', vL5, vN7, vS9].toArray Ty.ref10_Code) :: (b2, .cells cZ.toArray Ty.ref10_Code) :: (b1, .cells [str sel, vU, vL, vN, vS].toArray Ty.code_Code) :: (hpU ++ H))) m.units.length
    ⟨0, g9, .slice none 0 0, [], [], rfl, rfl, by omega, .refl _, .nil, .nil, h10⟩ ?_
  rintro q x w11 ⟨i, g11, vU', cU', hpU, rfl, rfl, hi, hg11, hI', hgU, h11⟩
  clear h10
  have hgl := hg9'.trans hg11
  have hI11 := hI.mono hgl
  have hU11 := hU.mono hgl
  obtain ⟨aU, cpU, rfl, _, _, _⟩ := id hU
  try simp only [↓E1, ↓E2, ↓E3, Nat.reduceAdd]
  rw [h11.ld2 1 _ (by simp)]
  try simp only [↓E1, ↓E2, ↓E3, Nat.reduceAdd]
  rw [cnd_dec]
  constructor
  · intro hlt
    have hlt : i < m.units.length := by omega
    obtain ⟨x, hx⟩ : ∃ x, m.units[i]? = some x := ⟨_, List.getElem?_eq_getElem hlt⟩
    have hxl := insT_at hx
    have h12 := h11.drew
    try simp only [↓E1, ↓E2, ↓E3, Nat.reduceAdd]
    rw [h12.ld2 1 _ (by simp)]
    try simp only [↓E1, ↓E2, ↓E3, Nat.reduceAdd]
    refine hI11.at hU11 hx h12 fun b o v hc0 hc1 hc2 hv => ?_
    try simp only [↓E1, ↓E2, ↓E3, Nat.reduceAdd]
    rw [Nat.add_zero, h12.ldI hc0]
    try simp only [↓E1, ↓E2, ↓E3, Nat.reduceAdd]
    rw [h12.ld2 1 _ (by simp)]
    try simp only [↓E1, ↓E2, ↓E3, Nat.reduceAdd]
    refine hI11.at hU11 hx h12 fun b' o' v' hc0' hc1' hc2' hv' => ?_
    try simp only [↓E1, ↓E2, ↓E3, Nat.reduceAdd]
    rw [h12.ldI hc1']
    refine bdI (cs := [i64 (x.args : Int), i64 (x.names : Int), .slice none 0 0]) rfl ?_
    refine h12.al fun b5 w13 h13 => ?_
    refine h13.rkI hc1' ?_
    refine h13.rk (b := b1) (t := Ty.code_Code) (fr := (0, 0)) (c := [str sel, _, vL, vN, vS]) (by simp) rfl ?_
    refine h13.rkI hc0 ?_
    refine h13.rk (b := b1) (t := Ty.code_Code) (fr := (0, 0)) (c := [str sel, _, vL, vN, vS]) (by simp) rfl ?_
    refine st_all (c := [i64 (x.args : Int), i64 (x.names : Int), .slice none 0 0]) (c2 := [.int .i64 0, .int .i64 0, .slice none 0 0]) h13 rfl rfl rfl fun w14 h14 => ?_
    clear hc0' hc1' hc2' hv' hc0 hc1 hc2 hv v v' b o b' o'
    refine lp1 (fun q y w' => ∃ k v5 hp5, y = i64 ((k : Nat) : Int) ∧ q = x.ins.length - k ∧ k ≤ x.ins.length ∧ Grow Ty.ref10_Ins 3 v5 k (insZ (x.ins.take k)) hp5 ∧
        Sat g11 w' ((b5, .cells [i64 (x.args : Int), i64 (x.names : Int), v5].toArray Ty.ref10_Unit) :: (b3, .cells [str sel, vU', vL5, vN7, vS9].toArray Ty.ref10_Code) :: (b2, .cells cZ.toArray Ty.ref10_Code) :: (b1, .cells [str sel, .slice aU m.units.length cpU, vL, vN, vS].toArray Ty.code_Code) :: (hp5 ++ (hpU ++ H)))) x.ins.length
      ⟨0, .slice none 0 0, [], rfl, rfl, by omega, .nil, h14⟩ ?_
    rintro q y w15 ⟨k, v5, hp5, rfl, rfl, hk, hg5, h15⟩
    clear h14
    try simp only [↓E1, ↓E2, ↓E3, Nat.reduceAdd]
    rw [h15.ld3 1 _ (by simp)]
    try simp only [↓E1, ↓E2, ↓E3, Nat.reduceAdd]
    refine hI11.at hU11 hx h15 fun b o v hc0 hc1 hc2 hv => ?_
    try simp only [↓E1, ↓E2, ↓E3, Nat.reduceAdd]
    rw [h15.ldI hc2]
    obtain ⟨av, cv, rfl, _, _, _⟩ := id hv
    try simp only [↓E1, ↓E2, ↓E3, Nat.reduceAdd]
    rw [cnd_dec]
    constructor
    · intro hlk
      have hlk : k < x.ins.length := by omega
      obtain ⟨y, hy⟩ : ∃ y, x.ins[k]? = some y := ⟨_, List.getElem?_eq_getElem hlk⟩
      try simp only [↓E1, ↓E2, ↓E3, Nat.reduceAdd]
      rw [h15.ld3 1 _ (by simp)]
      try simp only [↓E1, ↓E2, ↓E3, Nat.reduceAdd]
      refine hI11.at hU11 hx h15 fun b' o' v' hc0' hc1' hc2' hv' => ?_
      try simp only [↓E1, ↓E2, ↓E3, Nat.reduceAdd]
      rw [h15.ldI hc2']
      try simp only [↓E1, ↓E2, ↓E3, Nat.reduceAdd]
      refine insAt hv' hy h15 fun bi oi hci => ?_
      refine h15.ldnI (vs := insC y) hci ?_
      refine h15.al fun b7 w16 h16 => ?_
      refine st_all (c := insC y) (c2 := [.int .i64 0, .int .i64 0, .int .i64 0]) h16 rfl rfl rfl fun w17 h17 => ?_
      try simp only [↓E1, ↓E2, ↓E3, Nat.reduceAdd]
      rw [h17.ld1 2 _ (by simp)]
      try simp only [↓E1, ↓E2, ↓E3, Nat.reduceAdd]
      rw [h17.ld0 0 _ (by simp [insC])]
      try simp only [↓E1, ↓E2, ↓E3, Nat.reduceAdd]
      rw [h17.ld0 1 _ (by simp [insC])]
      try simp only [↓E1, ↓E2, ↓E3, Nat.reduceAdd]
      rw [h17.ld0 2 _ (by simp [insC])]
      refine bdI (cs := insC y) rfl ?_
      refine h17.bs (cs := insC y) rfl fun bn w18 h18 => ?_
      have h19 := Sat.pull1 (A := [(b7, _), (b5, _), (b3, _), (b2, _), (b1, _)]) (hp := hp5) h18
      refine h19.ap1 (m := 1) hg5 rfl rfl rfl (by omega) (by omega) fun v6 hp6 w20 hg6 h20 => ?_
      have h20 := (Sat.pull (A := hp6) (hp := [(b7, _), (b5, _), (b3, _), (b2, _), (b1, _)]) h20).tail
      have u6 : v6.cells = #[v6] ∧ one v6 = true := by obtain ⟨a, c, rfl⟩ := hg6.slice; exact ⟨rfl, rfl⟩
      try simp only [↓E1, ↓E2, ↓E3, Nat.reduceAdd]
      refine st_one h20 u6.1 u6.2 (by simp) fun w21 h21 => ?_
      simp only [List.set_cons_succ, List.set_cons_zero] at h21
      rw [insZ_take hy] at hg6
      try simp only [↓E1, ↓E2, ↓E3, Nat.reduceAdd]
      rw [wrap64_succ (by omega)]
      exact ⟨x.ins.length - (k + 1), by omega, _, rfl, k + 1, v6, hp6, rfl, rfl, by omega, hg6, h21⟩
    · intro hge
      have hkl : k = x.ins.length := by omega
      subst hkl
      rw [List.take_length] at hg5
      try simp only [↓E1, ↓E2, ↓E3, Nat.reduceAdd]
      rw [h15.ld1 1 _ (by simp)]
      try simp only [↓E1, ↓E2, ↓E3, Nat.reduceAdd]
      refine h15.ldn0 (c := [i64 (x.args : Int), i64 (x.names : Int), v5]) rfl ?_
      refine h15.bs (cs := [i64 (x.args : Int), i64 (x.names : Int), v5]) rfl fun bn w16 h16 => ?_
      have u5 : one v5 = true := by obtain ⟨a, c, rfl⟩ := hg5.slice; rfl
      have h17 := Sat.pull1 (A := [(b5, _), (b3, _), (b2, _), (b1, _)] ++ hp5) (hp := hpU) (by simpa using h16)
      refine h17.ap1 (m := 1) hgU rfl rfl (by simp only [allOne, u5]; rfl) (by omega) (by omega) fun v6 hp6 w20 hg6 h20 => ?_
      have h21 : Sat g11 w20 (hp5 ++ ((b3, .cells [str sel, vU', vL5, vN7, vS9].toArray Ty.ref10_Code) :: (b2, .cells cZ.toArray Ty.ref10_Code) :: (b1, .cells [str sel, .slice aU m.units.length cpU, vL, vN, vS].toArray Ty.code_Code) :: (hp6 ++ H))) := by
        have h := Sat.pull (A := hp6) (hp := [(b5, _), (b3, _), (b2, _), (b1, _)] ++ hp5) h20
        have h := Sat.tail h
        exact Sat.pull (A := [(b3, _), (b2, _), (b1, _)]) (hp := hp5) (by simpa using h)
      obtain ⟨g22, hg22, h22, hs22⟩ := hg5.freeze h21
      have u6 : v6.cells = #[v6] ∧ one v6 = true := by obtain ⟨a, c, rfl⟩ := hg6.slice; exact ⟨rfl, rfl⟩
      try simp only [↓E1, ↓E2, ↓E3, Nat.reduceAdd]
      refine st_one h22 u6.1 u6.2 (by simp) fun w23 h23 => ?_
      simp only [List.set_cons_succ, List.set_cons_zero] at h23
      try simp only [↓E1, ↓E2, ↓E3, Nat.reduceAdd]
      rw [wrap64_succ (by omega)]
      refine ⟨m.units.length - (i + 1), by omega, _, rfl, i + 1, g22, v6, _, hp6, rfl, rfl, by omega, hg11.trans hg22, ?_, hg6, h23⟩
      have := (hI'.mono hg22).snoc hs22
      rw [List.take_add_one, hx]
      exact this
  · intro hge
    have hil : i = m.units.length := by omega
    subst hil
    rw [List.take_length] at hI'
    have uu : one vU' = true := by obtain ⟨a, c, rfl⟩ := hgU.slice; rfl
    have oS : allOne [str sel, vU', vL5, vN7, vS9] = true := by simp only [allOne, uu, uL.2, uN.2, uS.2]; rfl
    refine h11.ldn0 (c := [str sel, vU', vL5, vN7, vS9]) rfl ?_
    refine st_all (c := [str sel, vU', vL5, vN7, vS9]) (c2 := cZ) h11.swap2 rfl rfl oS fun w12 h12 => ?_
    refine h12.ldn0 (c := [str sel, vU', vL5, vN7, vS9]) rfl ?_
    obtain ⟨g13, hg13, h13, hs13⟩ := hgU.freeze h12.tail.tail.tail
    have hl := hg11.trans hg13
    exact hR g13 _ w12 (hgl.trans hg13) ⟨vU', cU', vL5, vN7, vS9, rfl, hI'.mono hg13, hs13, hL9.mono hl, hN9.mono hl, hS9.mono hl⟩ h13
end Go.Vx
namespace Go.Vx
open Go Go.Proofs
variable {R : Ending → World → Prop} {g : G} {w : World} {H hp T : Hp}

theorem c_lonce {v : Value} {l : List (List UInt8)} (hv : SS g v l) (hl : l.length ≤ 1073741824) (hn : l.Nodup) (hS : Sat g w H) (hR : ∀ w', Sat g w' H → R (.returned (.bool true)) w') : Tr P F.law10_once [v] w R := by
  apply t_law10_once
  unfold d_law10_once
  refine lp2 (fun q x y w' => ∃ i, y = i64 ((i : Nat) : Int) ∧ q = l.length - i ∧ i ≤ l.length ∧ Sat g w' H) l.length ⟨0, rfl, rfl, by omega, hS⟩ ?_
  rintro q x y w1 ⟨i, rfl, rfl, hi, h1⟩
  obtain ⟨a, c, rfl, _, _, _⟩ := id hv
  try simp only [↓E1, ↓E2, ↓E3, Nat.reduceAdd]
  rw [cnd_dec]
  constructor
  · intro hlt
    have hlt : i < l.length := by omega
    refine lp2 (fun q x y w' => ∃ k, y = i64 ((k : Nat) : Int) ∧ q = i - k ∧ k ≤ i ∧ Sat g w' H) i ⟨0, rfl, rfl, by omega, h1⟩ ?_
    rintro q x y w2 ⟨k, rfl, rfl, hk, h2⟩
    try simp only [↓E1, ↓E2, ↓E3, Nat.reduceAdd]
    rw [cnd_dec]
    constructor
    · intro hlk
      have hlk : k < i := by omega
      have hx : l[i]? = some l[i] := List.getElem?_eq_getElem hlt
      have hy : l[k]? = some l[k] := List.getElem?_eq_getElem (by omega)
      have h3 := h2.drew
      refine SS.cell hv h3 hx fun b o hb => ?_
      rw [h3.ldI hb]
      refine SS.cell hv h3 hy fun b' o' hb' => ?_
      rw [h3.ldI hb']
      try simp only [↓E1, ↓E2, ↓E3, Nat.reduceAdd]
      rw [cnd_dec]
      constructor
      · intro he
        have := (List.getElem_inj hn).1 he
        omega
      · intro _
        try simp only [↓E1, ↓E2, ↓E3, Nat.reduceAdd]
        rw [wrap64_succ (by omega)]
        exact ⟨i - (k + 1), by omega, _, _, rfl, k + 1, rfl, rfl, by omega, h3⟩
    · intro _
      try simp only [↓E1, ↓E2, ↓E3, Nat.reduceAdd]
      rw [wrap64_succ (by omega)]
      exact ⟨l.length - (i + 1), by omega, _, _, rfl, i + 1, rfl, rfl, by omega, h2⟩
  · intro _
    exact hR w1 h1

/-- Is there such a step? -/
def anyI (us : List CU) (p : Ins → Bool) : Bool := us.any fun x => x.ins.any p
theorem anyI_of {us : List CU} {p : Ins → Bool} (h : hasI us p) : anyI us p = true := by
  obtain ⟨x, hx, i, hi, hp⟩ := h
  exact List.any_eq_true.2 ⟨x, hx, List.any_eq_true.2 ⟨i, hi, hp⟩⟩
theorem dec_beq (a b : Nat) : decide ((a : Int) = (b : Int)) = Nat.beq a b := by
  rw [Bool.eq_iff_iff, decide_eq_true_eq]
  constructor
  · intro h
    have : a = b := by omega
    rw [this]; exact Nat.beq_refl _
  · intro h
    have := Nat.eq_of_beq_eq_true h
    omega

theorem c_used {cv : List Value} {sel : List UInt8} {m : MK} (hC : CodeR g cv sel m) (hm : tot m ≤ 1073741824) {op other n : Nat} (hn : n ≤ 1073741824)
    (hu : ∀ a, a < n → hasI m.units (fun i => Nat.beq i.a a && (Nat.beq i.op op || Nat.beq i.op other))) (hS : Sat g w H)
    (hR : ∀ w', Sat g w' H → R (.returned (.bool true)) w') : Tr P F.law10_used [.agg cv.toArray, i64 (op : Int), i64 (other : Int), i64 (n : Int)] w R := by
  apply t_law10_used
  unfold d_law10_used
  obtain ⟨vU, cU, vL, vN, vS, rfl, hI, hU, hL, hN, hSe⟩ := hC
  have e : (Value.agg [str sel, vU, vL, vN, vS].toArray).cells.toList = [str sel, vU, vL, vN, vS] := by simp [Value.cells]
  rw [e]
  unfold tot at hm
  refine hS.al fun b1 w1 h1 => ?_
  obtain ⟨aU, cpU, rfl, _, _, _⟩ := id hU
  obtain ⟨cc, hcc⟩ : ∃ cc, cc = [str sel, Value.slice aU m.units.length cpU, vL, vN, vS] := ⟨_, rfl⟩
  have g1 : cc.getD 1 undef = Value.slice aU m.units.length cpU := by rw [hcc]; rfl
  have gl : 1 < cc.length := by rw [hcc]; simp
  rw [← hcc] at h1
  clear hcc
  refine lp2 (fun q x y w' => ∃ a, y = i64 ((a : Nat) : Int) ∧ q = n - a ∧ a ≤ n ∧ Sat g w' ((b1, .cells cc.toArray Ty.ref10_Code) :: H)) n ⟨0, rfl, rfl, by omega, h1⟩ ?_
  rintro q x8 y w2 ⟨a, rfl, rfl, ha, h2⟩
  try simp only [↓E1, ↓E2, ↓E3, Nat.reduceAdd]
  rw [cnd_dec]
  constructor
  · intro hlt
    have hlt : a < n := by omega
    have hany := anyI_of (hu a hlt)
    obtain ⟨p, hp⟩ : ∃ p : Ins → Bool, p = fun i => Nat.beq i.a a && (Nat.beq i.op op || Nat.beq i.op other) := ⟨_, rfl⟩
    rw [← hp] at hany
    refine lp2 (fun q x y w' => ∃ i, x = .bool (anyI (m.units.take i) p) ∧ y = i64 ((i : Nat) : Int) ∧ q = m.units.length - i ∧ i ≤ m.units.length ∧ Sat g w' ((b1, .cells cc.toArray Ty.ref10_Code) :: H)) m.units.length ⟨0, rfl, rfl, rfl, by omega, h2⟩ ?_
    rintro q x y w3 ⟨i, rfl, rfl, rfl, hi, h3⟩
    try simp only [↓E1, ↓E2, ↓E3, Nat.reduceAdd]
    rw [h3.ld0 1 _ gl, g1]
    try simp only [↓E1, ↓E2, ↓E3, Nat.reduceAdd]
    rw [cnd_dec]
    constructor
    · intro hli
      have hli : i < m.units.length := by omega
      obtain ⟨x, hx⟩ : ∃ x, m.units[i]? = some x := ⟨_, List.getElem?_eq_getElem hli⟩
      have hxl := insT_at hx
      refine lp2 (fun q z y w' => ∃ k, z = .bool (anyI (m.units.take i) p || (x.ins.take k).any p) ∧ y = i64 ((k : Nat) : Int) ∧ q = x.ins.length - k ∧ k ≤ x.ins.length ∧ Sat g w' ((b1, .cells cc.toArray Ty.ref10_Code) :: H)) x.ins.length
        ⟨0, by simp, rfl, rfl, by omega, h3⟩ ?_
      rintro q z y w4 ⟨k, rfl, rfl, rfl, hk, h4⟩
      try simp only [↓E1, ↓E2, ↓E3, Nat.reduceAdd]
      rw [h4.ld0 1 _ gl, g1]
      try simp only [↓E1, ↓E2, ↓E3, Nat.reduceAdd]
      refine hI.at hU hx h4 fun b o v hc0 hc1 hc2 hv => ?_
      try simp only [↓E1, ↓E2, ↓E3, Nat.reduceAdd]
      rw [h4.ldI hc2]
      obtain ⟨av, cpv, rfl, _, _, _⟩ := id hv
      try simp only [↓E1, ↓E2, ↓E3, Nat.reduceAdd]
      rw [cnd_dec]
      constructor
      · intro hlk
        have hlk : k < x.ins.length := by omega
        obtain ⟨y, hy⟩ : ∃ y, x.ins[k]? = some y := ⟨_, List.getElem?_eq_getElem hlk⟩
        try simp only [↓E1, ↓E2, ↓E3, Nat.reduceAdd]
        rw [h4.ld0 1 _ gl, g1]
        try simp only [↓E1, ↓E2, ↓E3, Nat.reduceAdd]
        refine hI.at hU hx h4 fun b' o' v' hc0' hc1' hc2' hv' => ?_
        try simp only [↓E1, ↓E2, ↓E3, Nat.reduceAdd]
        rw [h4.ldI hc2']
        try simp only [↓E1, ↓E2, ↓E3, Nat.reduceAdd]
        refine insAt hv' hy h4 fun bi oi hci => ?_
        refine h4.ldnI (vs := insC y) hci ?_
        refine h4.al fun b7 w5 h5 => ?_
        refine st_all (c := insC y) (c2 := [.int .i64 0, .int .i64 0, .int .i64 0]) h5 rfl rfl rfl fun w6 h6 => ?_
        have hnext : ∀ bb : Bool, bb = (anyI (m.units.take i) p || (x.ins.take k).any p || p y) → ∃ m', m' < x.ins.length - k ∧ ∃ a b, [Value.bool bb, Value.int IntKind.i64 (IntKind.i64.wrap ((k : Int) + 1))] = [a, b] ∧
            ∃ k, a = .bool (anyI (m.units.take i) p || (x.ins.take k).any p) ∧ b = i64 ((k : Nat) : Int) ∧ m' = x.ins.length - k ∧ k ≤ x.ins.length ∧ Sat g w6 ((b1, .cells cc.toArray Ty.ref10_Code) :: H) := by
          intro bb hbb
          rw [wrap64_succ (by omega)]
          refine ⟨x.ins.length - (k + 1), by omega, _, _, rfl, k + 1, ?_, rfl, rfl, by omega, h6.tail⟩
          rw [hbb, List.take_add_one, hy, List.any_append]
          simp [Bool.or_assoc]
        have hpy : p y = (Nat.beq y.a a && (Nat.beq y.op op || Nat.beq y.op other)) := by rw [hp]
        have c0 : (insC y).getD 0 undef = i64 (y.op : Int) := rfl
        have c1 : (insC y).getD 1 undef = i64 (y.a : Int) := rfl
        try simp only [↓E1, ↓E2, ↓E3, Nat.reduceAdd]
        cases hB : (anyI (m.units.take i) p || (x.ins.take k).any p)
        · rw [hB, Bool.false_or, hpy] at hnext
          try simp only [↓E1, ↓E2, ↓E3, Nat.reduceAdd]
          rw [h6.ld0 1 _ (by simp [insC]), c1]
          try simp only [↓E1, ↓E2, ↓E3, Nat.reduceAdd]
          rw [dec_beq]
          cases hA : Nat.beq y.a a
          · rw [hA] at hnext
            try simp only [↓E1, ↓E2, ↓E3, Nat.reduceAdd]
            exact hnext _ rfl
          · rw [hA] at hnext
            try simp only [↓E1, ↓E2, ↓E3, Nat.reduceAdd]
            rw [h6.ld0 0 _ (by simp [insC]), c0]
            try simp only [↓E1, ↓E2, ↓E3, Nat.reduceAdd]
            rw [dec_beq]
            cases hO : Nat.beq y.op op
            · rw [hO] at hnext
              try simp only [↓E1, ↓E2, ↓E3, Nat.reduceAdd]
              rw [h6.ld0 0 _ (by simp [insC]), c0]
              try simp only [↓E1, ↓E2, ↓E3, Nat.reduceAdd]
              rw [dec_beq]
              exact hnext _ rfl
            · rw [hO] at hnext
              try simp only [↓E1, ↓E2, ↓E3, Nat.reduceAdd]
              exact hnext _ rfl
        · rw [hB] at hnext
          try simp only [↓E1, ↓E2, ↓E3, Nat.reduceAdd]
          exact hnext _ rfl
      · intro hge
        have hkl : k = x.ins.length := by omega
        subst hkl
        try simp only [↓E1, ↓E2, ↓E3, Nat.reduceAdd]
        rw [wrap64_succ (by omega)]
        refine ⟨m.units.length - (i + 1), by omega, _, _, rfl, i + 1, ?_, rfl, rfl, by omega, h4⟩
        rw [List.take_length, List.take_add_one, hx]
        simp [anyI, List.any_append]
    · intro hge
      have hil : i = m.units.length := by omega
      subst hil
      rw [List.take_length, hany]
      try simp only [Bool.not_true, ↓E1, ↓E2, ↓E3, Nat.reduceAdd]
      rw [wrap64_succ (by omega)]
      exact ⟨n - (a + 1), by omega, _, _, rfl, a + 1, rfl, rfl, by omega, h3⟩
  · intro _
    exact hR w2 h2.tail
end Go.Vx
namespace Go.Vx
open Go Go.Proofs
variable {R : Ending → World → Prop} {g : G} {w : World} {H hp T : Hp}

theorem fields39 : P.underlying 39 = some (.struct (P.fieldsOf 39)) := by kernel_rfl
theorem part_int (i : Nat) (xs : Array Value) (v : Value) (hv : xs[i]? = some v) (w : World) : (part 3 xs i).run P w = .ok v w := by
  have u3 := Tryz.underlying3
  have a3 := Tryz.isAgg3
  have z3 := Tryz.sizeOf3
  unfold part
  go_simp
theorem run_neq39 (x : List Value) (a b c : Int) (hx : x = [i64 a, i64 b, i64 c]) (o1 o2 : Operand) (w : World) : (eqRun .neq 39 o1 o2 (.agg x.toArray) (.agg x.toArray)).run P w = .ok (.bool false) w := by
  subst hx
  unfold eqRun
  have hg : P.eqGuardType P.depth 39 = false := by kernel_rfl
  have hp : P.stoodInHeld 39 = false := by kernel_rfl
  rw [Sem.run_bind, run_eqGuard_agg w .neq 39 o1 o2 _ _ hg]
  simp only [Result.andThen_ok]
  rw [run_neq_struct, show (10000 : Nat) = 9999 + 1 from rfl, run_equalIn_agg w 9999 39 _ _ fields39 hp]
  have hf : (P.fieldsOf 39).toList.map (fun f => (f.name, f.type, f.offset)) = [("Op", 3, 0), ("A", 3, 1), ("B", 3, 2)] := by kernel_rfl
  have h3 := Tryz.underlying3
  generalize (P.fieldsOf 39).toList = fs at hf
  have hl := congrArg List.length hf
  obtain ⟨f1, f2, f3, rfl⟩ : ∃ f1 f2 f3, fs = [f1, f2, f3] := by
    rcases fs with _ | ⟨f1, _ | ⟨f2, _ | ⟨f3, _ | ⟨f4, fs⟩⟩⟩⟩
    · simp at hl
    · simp at hl
    · simp at hl
    · exact ⟨_, _, _, rfl⟩
    · simp at hl
  · simp only [List.map_cons, List.map_nil, List.cons.injEq, Prod.mk.injEq, and_true] at hf
    obtain ⟨⟨n1, t1, o1⟩, ⟨n2, t2, o2⟩, ⟨n3, t3, o3⟩⟩ := hf
    simp only [Op.eqFields, n1, n2, n3, t1, t2, t3, o1, o2, o3]
    have e1 : ("Op" ≠ "_") = True := by simp
    have e2 : ("A" ≠ "_") = True := by simp
    have e3 : ("B" ≠ "_") = True := by simp
    have q := fun (a : Int) (w : World) => run_equalIn_int (P := P) w 9998 3 .i64 .i64 a a h3
    simp [e1, e2, e3, part_int 0 _ _ (show (#[i64 a, i64 b, i64 c] : Array Value)[0]? = some (i64 a) from rfl), part_int 1 _ _ (show (#[i64 a, i64 b, i64 c] : Array Value)[1]? = some (i64 b) from rfl), part_int 2 _ _ (show (#[i64 a, i64 b, i64 c] : Array Value)[2]? = some (i64 c) from rfl), q]

theorem c_Texts {v v2 : Value} {l : List (List UInt8)} (hv : SS g v l) (hv2 : SS g v2 l) (hl : l.length ≤ 1073741824) (hS : Sat g w H) (hR : ∀ w', Sat g w' H → R (.returned (.bool true)) w') : Tr P F.ref10_Texts [v, v2] w R := by
  apply t_ref10_Texts
  unfold d_ref10_Texts
  obtain ⟨a, c, rfl, _, _, _⟩ := id hv
  obtain ⟨a2, c2, rfl, _, _, _⟩ := id hv2
  try simp only [↓E1, ↓E2, ↓E3, Nat.reduceAdd]
  simp only [decide_true, Bool.not_true, ↓E3]
  refine lp2 (fun q x y w' => ∃ i, y = i64 ((i : Nat) : Int) ∧ q = l.length - i ∧ i ≤ l.length ∧ Sat g w' H) l.length ⟨0, rfl, rfl, by omega, hS⟩ ?_
  rintro q x y w1 ⟨i, rfl, rfl, hi, h1⟩
  try simp only [↓E1, ↓E2, ↓E3, Nat.reduceAdd]
  rw [cnd_dec]
  constructor
  · intro hlt
    have hx : l[i]? = some l[i] := List.getElem?_eq_getElem (by omega)
    have h3 := h1.drew
    refine SS.cell hv h3 hx fun b o hb => ?_
    rw [h3.ldI hb]
    refine SS.cell hv2 h3 hx fun b' o' hb' => ?_
    rw [h3.ldI hb']
    try simp only [decide_true, Bool.not_true, ↓E1, ↓E2, ↓E3, Nat.reduceAdd]
    rw [wrap64_succ (by omega)]
    exact ⟨l.length - (i + 1), by omega, _, _, rfl, i + 1, rfl, rfl, by omega, h3⟩
  · intro _
    exact hR w1 h1

theorem c_Same {cv cv2 : List Value} {sel : List UInt8} {m : MK} (hC : CodeR g cv sel m) (hC2 : CodeR g cv2 sel m) (hm : tot m ≤ 1073741824) (hS : Sat g w H) (hR : ∀ w', Sat g w' H → R (.returned (.bool true)) w') :
    Tr P F.ref10_Same [.agg cv.toArray, .agg cv2.toArray] w R := by
  apply t_ref10_Same
  unfold d_ref10_Same
  obtain ⟨vU, cU, vL, vN, vS, rfl, hI, hU, hL, hN, hSe⟩ := hC
  obtain ⟨vU2, cU2, vL2, vN2, vS2, rfl, hI2, hU2, hL2, hN2, hSe2⟩ := hC2
  have e : (Value.agg [str sel, vU, vL, vN, vS].toArray).cells.toList = [str sel, vU, vL, vN, vS] := by simp [Value.cells]
  have e2 : (Value.agg [str sel, vU2, vL2, vN2, vS2].toArray).cells.toList = [str sel, vU2, vL2, vN2, vS2] := by simp [Value.cells]
  rw [e, e2]
  unfold tot at hm
  refine hS.al fun b1 w1 h1 => h1.al fun b2 w2 h2 => ?_
  clear h1
  obtain ⟨aU, cpU, rfl, _, _, _⟩ := id hU
  obtain ⟨aU2, cpU2, rfl, _, _, _⟩ := id hU2
  refine jn1 (fun x w' => Sat g w' ((b2, .cells [str sel, .slice aU2 m.units.length cpU2, vL2, vN2, vS2].toArray Ty.ref10_Code) :: (b1, .cells [str sel, .slice aU m.units.length cpU, vL, vN, vS].toArray Ty.ref10_Code) :: H)) ?_ ?_
  rotate_left
  · intro k1 hk1
    try simp only [↓E1, ↓E2, ↓E3, Nat.reduceAdd]
    rw [h2.ld1 0 _ (by simp)]
    try simp only [↓E1, ↓E2, ↓E3, Nat.reduceAdd]
    rw [h2.ld0 0 _ (by simp)]
    try simp only [decide_true, Bool.not_true, ↓E1, ↓E2, ↓E3, Nat.reduceAdd]
    rw [h2.ld1 2 _ (by simp)]
    try simp only [↓E1, ↓E2, ↓E3, Nat.reduceAdd]
    rw [h2.ld0 2 _ (by simp)]
    try simp only [↓E1, ↓E2, ↓E3, Nat.reduceAdd]
    refine c_Texts hL hL2 (by omega) h2 fun w3 h3 => ?_
    try simp only [Bool.not_true, ↓E1, ↓E2, ↓E3, Nat.reduceAdd]
    rw [h3.ld1 3 _ (by simp)]
    try simp only [↓E1, ↓E2, ↓E3, Nat.reduceAdd]
    rw [h3.ld0 3 _ (by simp)]
    try simp only [↓E1, ↓E2, ↓E3, Nat.reduceAdd]
    refine c_Texts hN hN2 (by omega) h3 fun w4 h4 => ?_
    try simp only [Bool.not_true, ↓E1, ↓E2, ↓E3, Nat.reduceAdd]
    rw [h4.ld1 4 _ (by simp)]
    try simp only [↓E1, ↓E2, ↓E3, Nat.reduceAdd]
    rw [h4.ld0 4 _ (by simp)]
    try simp only [↓E1, ↓E2, ↓E3, Nat.reduceAdd]
    refine c_Texts hSe hSe2 (by omega) h4 fun w5 h5 => ?_
    try simp only [Bool.not_true, ↓E1, ↓E2, ↓E3, Nat.reduceAdd]
    rw [h5.ld1 1 _ (by simp)]
    try simp only [↓E1, ↓E2, ↓E3, Nat.reduceAdd]
    rw [h5.ld0 1 _ (by simp)]
    try simp only [decide_true, Bool.not_true, ↓E1, ↓E2, ↓E3, Nat.reduceAdd]
    exact hk1 _ _ h5
  intro x w3 h3
  clear h2
  refine lp2 (fun q x y w' => ∃ i, y = i64 ((i : Nat) : Int) ∧ q = m.units.length - i ∧ i ≤ m.units.length ∧ Sat g w' ((b2, .cells [str sel, .slice aU2 m.units.length cpU2, vL2, vN2, vS2].toArray Ty.ref10_Code) :: (b1, .cells [str sel, .slice aU m.units.length cpU, vL, vN, vS].toArray Ty.ref10_Code) :: H)) m.units.length
    ⟨0, rfl, rfl, by omega, h3⟩ ?_
  rintro q x y w4 ⟨i, rfl, rfl, hi, h4⟩
  clear h3
  try simp only [↓E1, ↓E2, ↓E3, Nat.reduceAdd]
  rw [h4.ld1 1 _ (by simp)]
  try simp only [↓E1, ↓E2, ↓E3, Nat.reduceAdd]
  rw [cnd_dec]
  constructor
  · intro hli
    have hli : i < m.units.length := by omega
    obtain ⟨x, hx⟩ : ∃ x, m.units[i]? = some x := ⟨_, List.getElem?_eq_getElem hli⟩
    have hxl := insT_at hx
    try simp only [↓E1, ↓E2, ↓E3, Nat.reduceAdd]
    rw [h4.ld1 1 _ (by simp)]
    try simp only [↓E1, ↓E2, ↓E3, Nat.reduceAdd]
    refine hI.at hU hx h4 fun b o v hc0 hc1 hc2 hv => ?_
    refine h4.ldnI (vs := [i64 (x.args : Int), i64 (x.names : Int), v]) (fun j y hy => by
      match j, hy with
      | 0, hy => simp at hy; subst hy; exact hc0
      | 1, hy => simp at hy; subst hy; exact hc1
      | 2, hy => simp at hy; subst hy; exact hc2
      | j + 3, hy => simp at hy) ?_
    refine h4.al fun b6 w5 h5 => ?_
    refine st_all (c := [i64 (x.args : Int), i64 (x.names : Int), v]) (c2 := [.int .i64 0, .int .i64 0, .slice none 0 0]) h5 rfl rfl (by simp only [allOne, hv.one]; rfl) fun w6 h6 => ?_
    try simp only [↓E1, ↓E2, ↓E3, Nat.reduceAdd]
    rw [h6.ld1 1 _ (by simp)]
    try simp only [↓E1, ↓E2, ↓E3, Nat.reduceAdd]
    refine hI2.at hU2 hx h6 fun b' o' v' hc0' hc1' hc2' hv' => ?_
    refine h6.ldnI (vs := [i64 (x.args : Int), i64 (x.names : Int), v']) (fun j y hy => by
      match j, hy with
      | 0, hy => simp at hy; subst hy; exact hc0'
      | 1, hy => simp at hy; subst hy; exact hc1'
      | 2, hy => simp at hy; subst hy; exact hc2'
      | j + 3, hy => simp at hy) ?_
    refine h6.al fun b7 w7 h7 => ?_
    refine st_all (c := [i64 (x.args : Int), i64 (x.names : Int), v']) (c2 := [.int .i64 0, .int .i64 0, .slice none 0 0]) h7 rfl rfl (by simp only [allOne, hv'.one]; rfl) fun w8 h8 => ?_
    obtain ⟨av, cpv, rfl, _, _, _⟩ := id hv
    obtain ⟨av', cpv', rfl, _, _, _⟩ := id hv'
    refine jnI (n := 13) ?_
    obtain ⟨HH, hHH⟩ : ∃ HH, HH = (b2, .cells [str sel, .slice aU2 m.units.length cpU2, vL2, vN2, vS2].toArray Ty.ref10_Code) :: (b1, .cells [str sel, .slice aU m.units.length cpU, vL, vN, vS].toArray Ty.ref10_Code) :: H := ⟨_, rfl⟩
    rw [← hHH] at h8
    rw [← hHH]
    try simp only [↓E1, ↓E2, ↓E3, Nat.reduceAdd]
    rw [h8.ld1 0 _ (by simp)]
    try simp only [↓E1, ↓E2, ↓E3, Nat.reduceAdd]
    rw [h8.ld0 0 _ (by simp)]
    try simp only [decide_true, Bool.not_true, ↓E1, ↓E2, ↓E3, Nat.reduceAdd]
    rw [h8.ld1 1 _ (by simp)]
    try simp only [↓E1, ↓E2, ↓E3, Nat.reduceAdd]
    rw [h8.ld0 1 _ (by simp)]
    try simp only [decide_true, Bool.not_true, ↓E1, ↓E2, ↓E3, Nat.reduceAdd]
    rw [h8.ld1 2 _ (by simp)]
    try simp only [↓E1, ↓E2, ↓E3, Nat.reduceAdd]
    rw [h8.ld0 2 _ (by simp)]
    try simp only [decide_true, Bool.not_true, ↓E1, ↓E2, ↓E3, Nat.reduceAdd]
    refine lp2 (fun q z y w' => ∃ k, y = i64 ((k : Nat) : Int) ∧ q = x.ins.length - k ∧ k ≤ x.ins.length ∧ Sat g w' ((b7, .cells [i64 (x.args : Int), i64 (x.names : Int), .slice av' x.ins.length cpv'].toArray Ty.ref10_Unit) :: (b6, .cells [i64 (x.args : Int), i64 (x.names : Int), .slice av x.ins.length cpv].toArray Ty.ref10_Unit) :: HH)) x.ins.length
      ⟨0, rfl, rfl, by omega, h8⟩ ?_
    rintro q z y w9 ⟨k, rfl, rfl, hk, h9⟩
    clear h8
    try simp only [↓E1, ↓E2, ↓E3, Nat.reduceAdd]
    rw [h9.ld1 2 _ (by simp)]
    try simp only [↓E1, ↓E2, ↓E3, Nat.reduceAdd]
    rw [cnd_dec]
    constructor
    · intro hlk
      have hlk : k < x.ins.length := by omega
      obtain ⟨y, hy⟩ : ∃ y, x.ins[k]? = some y := ⟨_, List.getElem?_eq_getElem hlk⟩
      have h10 := h9.drew
      try simp only [↓E1, ↓E2, ↓E3, Nat.reduceAdd]
      rw [h10.ld1 2 _ (by simp)]
      try simp only [↓E1, ↓E2, ↓E3, Nat.reduceAdd]
      refine insAt hv hy h10 fun bi oi hci => ?_
      refine h10.ldnI (vs := insC y) hci ?_
      try simp only [↓E1, ↓E2, ↓E3, Nat.reduceAdd]
      rw [h10.ld0 2 _ (by simp)]
      try simp only [↓E1, ↓E2, ↓E3, Nat.reduceAdd]
      refine insAt hv' hy h10 fun bi' oi' hci' => ?_
      refine h10.ldnI (vs := insC y) hci' ?_
      refine ⟨.bool false, fun w' => run_neq39 (insC y) _ _ _ rfl _ _ w', ?_⟩
      try simp only [↓E1, ↓E2, ↓E3, Nat.reduceAdd]
      rw [wrap64_succ (by omega)]
      exact ⟨x.ins.length - (k + 1), by omega, _, _, rfl, k + 1, rfl, rfl, by omega, h10⟩
    · intro _
      try simp only [↓E1, ↓E2, ↓E3, Nat.reduceAdd]
      rw [wrap64_succ (by omega)]
      subst hHH
      exact ⟨m.units.length - (i + 1), by omega, _, _, rfl, i + 1, rfl, rfl, by omega, h9.tail.tail⟩
  · intro _
    exact hR w4 h4.tail.tail
end Go.Vx
namespace Go.Vx
open Go Go.Proofs
variable {R : Ending → World → Prop} {g : G} {w : World} {H hp T : Hp}

theorem c_known (hS : Sat g w H) (hR : ∀ g' w', g.le g' → Sat g' w' H → R (.returned (.bool true)) w') : Tr P F.law10_known [] w R := by
  apply t_law10_known
  unfold d_law10_known
  have e1 : (Value.string { data := #[51, 32, 102, 111, 111, 59, 32, 43, 32, 52] }) = str src1 := rfl
  have e2 : (Value.string { data := #[97, 32, 58, 61, 32, 51] }) = str src2 := rfl
  rw [e1, e2]
  try simp only [↓E2]
  have hnil : SS g (.slice none 0 0) [] := Sl.nil g 1
  refine c_Compile (slots := []) (by decide) hnil (by simp) hS (fun sel m g1 cv w1 hc hg1 hcv htot h1 => ?_) (fun p e g1 w1 hc _ _ => ?_)
  rotate_left
  · rw [known1] at hc; simp at hc
  rw [known1] at hc
  injection hc with hc
  injection hc with hs hm
  subst hs hm
  try simp only [↓E1, ↓E2, ↓E3, Nat.reduceAdd]
  refine h1.al fun b1 w2 h2 => ?_
  refine st_all (c := cv) (c2 := cZ) h2 hcv.len.1 rfl hcv.len.2 fun w3 h3 => ?_
  try simp only [↓E1, ↓E2, ↓E3, Nat.reduceAdd]
  refine c_Compile (slots := []) (by decide) (hnil.mono hg1) (by simp) h3 (fun sel m g1 cv w1 hc _ _ _ _ => ?_) (fun p e g4 w4 hc hg4 h4 => ?_)
  · rw [known2] at hc; simp at hc
  rw [known2] at hc
  injection hc with hc
  injection hc with hp he
  subst hp he
  try simp only [↓E1, ↓E2, ↓E3, Nat.reduceAdd]
  refine h4.al fun b4 w5 h5 => ?_
  refine st_all (c := cZ) (c2 := cZ) h5 rfl rfl rfl fun w6 h6 => ?_
  refine h6.bs (cs := [[51], [52]].map str) rfl fun b18 w7 h7 => ?_
  obtain ⟨g8, hg8, h8, hL⟩ := h7.frz (n := 2) (sz := 1) rfl (by decide)
  refine h8.bs (cs := [[102, 111, 111], [43]].map str) rfl fun b19 w9 h9 => ?_
  obtain ⟨g10, hg10, h10, hSe⟩ := h9.frz (n := 2) (sz := 1) rfl (by decide)
  refine bdI (cs := [str [], .slice none 0 0, .slice (some ⟨b18, 0, none⟩) 2 2, .slice none 0 0, .slice (some ⟨b19, 0, none⟩) 2 2]) rfl ?_
  refine h10.al fun b7 w11 h11 => ?_
  refine st_all (c := [str [], .slice none 0 0, .slice (some ⟨b18, 0, none⟩) 2 2, .slice none 0 0, .slice (some ⟨b19, 0, none⟩) 2 2]) (c2 := cZ) h11 rfl rfl rfl fun w12 h12 => ?_
  refine bdI (cs := insC ⟨0, 0, 0⟩) rfl ?_
  refine bdI (cs := insC ⟨11, 0, 0⟩) rfl ?_
  refine bdI (cs := insC ⟨8, 0, 0⟩) rfl ?_
  refine bdI (cs := insC ⟨12, 0, 0⟩) rfl ?_
  refine bdI (cs := insC ⟨0, 1, 0⟩) rfl ?_
  refine bdI (cs := insC ⟨8, 1, 1⟩) rfl ?_
  refine bdI (cs := insC ⟨13, 0, 0⟩) rfl ?_
  refine h12.bs (cs := insZ [⟨0, 0, 0⟩, ⟨11, 0, 0⟩, ⟨8, 0, 0⟩, ⟨12, 0, 0⟩, ⟨0, 1, 0⟩, ⟨8, 1, 1⟩, ⟨13, 0, 0⟩]) rfl fun b28 w13 h13 => ?_
  obtain ⟨g14, hg14, h14, hI⟩ := h13.frz (n := 7) (sz := 3) rfl (by decide)
  refine bdI (cs := [i64 0, i64 0, .slice (some ⟨b28, 0, none⟩) 7 7]) rfl ?_
  refine h14.bs (cs := [i64 0, i64 0, .slice (some ⟨b28, 0, none⟩) 7 7]) rfl fun b30 w15 h15 => ?_
  obtain ⟨g16, hg16, h16, hU⟩ := h15.frz (n := 1) (sz := 3) rfl (by decide)
  try simp only [↓E1, ↓E2, ↓E3, Nat.reduceAdd]
  refine st_one h16 rfl rfl (by simp) fun w17 h17 => ?_
  simp only [List.set_cons_succ, List.set_cons_zero] at h17
  have h18 := h17.drew
  have hgall : g1.le g16 := hg4.trans (hg8.trans (hg10.trans (hg14.trans hg16)))
  obtain ⟨cw, hcw⟩ : ∃ cw, cw = [str [], Value.slice (some ⟨b30, 0, none⟩) 1 1, .slice (some ⟨b18, 0, none⟩) 2 2, .slice none 0 0, .slice (some ⟨b19, 0, none⟩) 2 2] := ⟨_, rfl⟩
  have hwant : CodeR g16 cw [] mk1 := by
    refine ⟨_, _, _, _, _, hcw, .cons ?_ .nil, hU, hL.mono (hg10.trans (hg14.trans hg16)), Sl.nil _ 1, hSe.mono (hg14.trans hg16)⟩
    exact hI.mono hg16
  rw [← hcw] at h18
  try simp only [↓E1, ↓E2, ↓E3, Nat.reduceAdd]
  simp only [decide_true, ↓E3]
  refine h18.ldnH (b := b1) (c := cv) (t := Ty.code_Code) (fr := (0, 0)) (by simp) 5 0 (by rw [hcv.len.1]; omega) ?_
  rw [List.drop_zero, List.take_of_length_le (by rw [hcv.len.1]; omega)]
  refine h18.ldn0 (c := cw) (by rw [hcw]; rfl) ?_
  try simp only [↓E1, ↓E2, ↓E3, Nat.reduceAdd]
  refine c_taken (hcv.mono hgall) htot h18 fun g19 cv19 w19 hg19 hcv19 h19 => ?_
  try simp only [↓E1, ↓E2, ↓E3, Nat.reduceAdd]
  refine h19.rkA (b := b7) (t := Ty.ref10_Code) (fr := (0, 0)) (by simp) ?_
  try simp only [↓E1, ↓E2, ↓E3, Nat.reduceAdd]
  refine c_Same hcv19 (hwant.mono hg19) htot h19 fun w20 h20 => ?_
  try simp only [↓E1, ↓E2, ↓E3, Nat.reduceAdd]
  rw [show decide (((0 : Nat) : Int) = 0) = true from rfl, show decide (((21 : Nat) : Int) = 21) = true from rfl]
  try simp only [↓E1, ↓E2, ↓E3, Nat.reduceAdd]
  exact hR g19 w20 (hg1.trans (hgall.trans hg19)) h20.tail.tail.tail
end Go.Vx
namespace Go.Vx
open Go Go.Proofs
variable {R : Ending → World → Prop} {g : G} {w : World} {H hp T : Hp}

theorem compile_err {slots : List (List UInt8)} {s : List UInt8} {p e : Nat} (h : compileS slots s = .error (p, e)) : e ≠ 0 := by
  unfold compileS codeS at h
  cases hp : parseS s with
  | error x =>
    obtain ⟨q, e'⟩ := x
    rw [hp] at h
    injection h with h
    injection h with h1 h2
    subst h1 h2
    exact parse_err hp
  | ok n =>
    rw [hp] at h
    simp only [] at h
    cases hm : makeS slots n with
    | error p =>
      rw [hm] at h
      injection h with h
      injection h with _ h
      omega
    | ok m => rw [hm] at h; simp at h

theorem nBi_le (l : List Ins) : nBi l ≤ l.length := by
  induction l with
  | nil => simp [nBi]
  | cons x l ih => simp only [nBi, List.length_cons]; cases Nat.beq x.op 10 <;> simp <;> omega
theorem nB_le (l : List CU) : nB l ≤ insT l := by
  induction l with
  | nil => simp [nB]
  | cons x l ih => have := nBi_le x.ins; simp only [nB, insT]; omega
theorem insT_take (l : List CU) (i : Nat) : insT (l.take i) ≤ insT l := by
  induction l generalizing i with
  | nil => simp
  | cons x l ih => cases i with
    | zero => simp [insT]
    | succ i => have := ih i; simp only [List.take_succ_cons, insT]; omega

theorem c_CodeOnce {s : List UInt8} {sv : Value} {slots : List (List UInt8)} (hs : s.length ≤ 9223372036854775807) (hsl : SS g sv slots) (hsn : slots.length ≤ 4611686018427387904) (hS : Sat g w H)
    (hR : ∀ g' w', g.le g' → Sat g' w' H → R (.returned (.bool true)) w') : Tr P F.law10_CodeOnce [str s, sv] w R := by
  apply t_law10_CodeOnce
  unfold d_law10_CodeOnce
  try simp only [↓E2]
  refine c_Compile hs hsl hsn hS (fun sel m g1 cv w1 hc hg1 hcv htot h1 => ?_) (fun p e g1 w1 hc hg1 h1 => ?_)
  rotate_left
  · try simp only [↓E1, ↓E2, ↓E3, Nat.reduceAdd]
    refine h1.al fun b1 w2 h2 => ?_
    refine st_all (c := cZ) (c2 := cZ) h2 rfl rfl rfl fun w3 h3 => ?_
    have he := compile_err hc
    have : decide ((e : Int) = 0) = false := by rw [decide_eq_false_iff_not]; omega
    try simp only [↓E1, ↓E2, ↓E3, Nat.reduceAdd]
    rw [this]
    try simp only [Bool.not_false, ↓E1, ↓E2, ↓E3, Nat.reduceAdd]
    refine c_known h3.tail fun g4 w4 hg4 h4 => ?_
    try simp only [↓E1, ↓E2, ↓E3, Nat.reduceAdd]
    exact hR g4 w4 (hg1.trans hg4) h4
  obtain ⟨hinv, hblk⟩ := once_holds hc
  try simp only [↓E1, ↓E2, ↓E3, Nat.reduceAdd]
  refine h1.al fun b1 w2 h2 => ?_
  refine st_all (c := cv) (c2 := cZ) h2 hcv.len.1 rfl hcv.len.2 fun w3 h3 => ?_
  try simp only [↓E1, ↓E2, ↓E3, Nat.reduceAdd]
  simp only [decide_true, Bool.not_true, ↓E3]
  refine h3.ldn0 (c := cv) hcv.len.1.symm ?_
  try simp only [↓E1, ↓E2, ↓E3, Nat.reduceAdd]
  refine c_taken hcv htot h3.tail fun g4 cv4 w4 hg4 hcv4 h4 => ?_
  clear h2 h3 h1
  try simp only [↓E1, ↓E2, ↓E3, Nat.reduceAdd]
  refine h4.al fun b8 w5 h5 => ?_
  refine st_all (c := cv4) (c2 := cZ) h5 hcv4.len.1 rfl hcv4.len.2 fun w6 h6 => ?_
  clear h5 h4
  have hcv4' := hcv4
  obtain ⟨vU, cU, vL, vN, vS, rfl, hI, hU, hL, hN, hSe⟩ := hcv4'
  obtain ⟨aU, cpU, rfl, _, _, _⟩ := id hU
  obtain ⟨cc, hcc⟩ : ∃ cc, cc = [str sel, Value.slice aU m.units.length cpU, vL, vN, vS] := ⟨_, rfl⟩
  have gl : cc.length = 5 := by rw [hcc]; rfl
  have k1 : cc.getD 1 undef = Value.slice aU m.units.length cpU := by rw [hcc]; rfl
  have k2 : cc.getD 2 undef = vL := by rw [hcc]; rfl
  have k3 : cc.getD 3 undef = vN := by rw [hcc]; rfl
  have k4 : cc.getD 4 undef = vS := by rw [hcc]; rfl
  rw [← hcc] at h6 hcv4
  clear hcc
  have hmt := htot
  unfold tot at hmt
  have hlen0 : ¬ ((m.units.length : Int) = 0) := by omega
  refine jn1 (fun x w' => Sat g4 w' ((b8, .cells cc.toArray Ty.ref10_Code) :: H)) ?_ ?_
  rotate_left
  · intro q1 hq1
    try simp only [↓E1, ↓E2, ↓E3, Nat.reduceAdd]
    rw [h6.ld0 2 _ (by omega), k2]
    try simp only [↓E1, ↓E2, ↓E3, Nat.reduceAdd]
    refine c_lonce hL (by omega) hinv.lits h6 fun w7 h7 => ?_
    try simp only [Bool.not_true, ↓E1, ↓E2, ↓E3, Nat.reduceAdd]
    rw [h7.ld0 3 _ (by omega), k3]
    try simp only [↓E1, ↓E2, ↓E3, Nat.reduceAdd]
    refine c_lonce hN (by omega) hinv.names h7 fun w8 h8 => ?_
    try simp only [Bool.not_true, ↓E1, ↓E2, ↓E3, Nat.reduceAdd]
    rw [h8.ld0 4 _ (by omega), k4]
    try simp only [↓E1, ↓E2, ↓E3, Nat.reduceAdd]
    refine c_lonce hSe (by omega) hinv.sels h8 fun w9 h9 => ?_
    try simp only [Bool.not_true, ↓E1, ↓E2, ↓E3, Nat.reduceAdd]
    rw [h9.ld0 1 _ (by omega), k1]
    try simp only [↓E1, ↓E2, ↓E3, Nat.reduceAdd]
    rw [decide_eq_false hlen0]
    try simp only [↓E1, ↓E2, ↓E3, Nat.reduceAdd]
    exact hq1 _ _ h9
  intro x4 w7 h7
  clear h6
  refine lp2 (fun q x y w' => ∃ i, x = i64 ((nB (m.units.take i) : Nat) : Int) ∧ y = i64 ((i : Nat) : Int) ∧ q = m.units.length - i ∧ i ≤ m.units.length ∧ Sat g4 w' ((b8, .cells cc.toArray Ty.ref10_Code) :: H)) m.units.length
    ⟨0, rfl, rfl, rfl, by omega, h7⟩ ?_
  rintro q x y w8 ⟨i, rfl, rfl, rfl, hi, h8⟩
  clear h7
  try simp only [↓E1, ↓E2, ↓E3, Nat.reduceAdd]
  rw [h8.ld0 1 _ (by omega), k1]
  try simp only [↓E1, ↓E2, ↓E3, Nat.reduceAdd]
  rw [cnd_dec]
  constructor
  · intro hli
    have hli : i < m.units.length := by omega
    obtain ⟨x, hx⟩ : ∃ x, m.units[i]? = some x := ⟨_, List.getElem?_eq_getElem hli⟩
    have hxl := insT_at hx
    have hnb : nB (m.units.take i) ≤ 1073741824 := by have := nB_le (m.units.take i); have := insT_take m.units i; omega
    refine lp2 (fun q z y w' => ∃ k, z = i64 ((nB (m.units.take i) + nBi (x.ins.take k) : Nat) : Int) ∧ y = i64 ((k : Nat) : Int) ∧ q = x.ins.length - k ∧ k ≤ x.ins.length ∧ Sat g4 w' ((b8, .cells cc.toArray Ty.ref10_Code) :: H)) x.ins.length
      ⟨0, rfl, rfl, rfl, by omega, h8⟩ ?_
    rintro q z y w9 ⟨k, rfl, rfl, rfl, hk, h9⟩
    clear h8
    try simp only [↓E1, ↓E2, ↓E3, Nat.reduceAdd]
    rw [h9.ld0 1 _ (by omega), k1]
    try simp only [↓E1, ↓E2, ↓E3, Nat.reduceAdd]
    refine hI.at hU hx h9 fun b o v hc0 hc1 hc2 hv => ?_
    try simp only [↓E1, ↓E2, ↓E3, Nat.reduceAdd]
    rw [h9.ldI hc2]
    obtain ⟨av, cpv, rfl, _, _, _⟩ := id hv
    try simp only [↓E1, ↓E2, ↓E3, Nat.reduceAdd]
    rw [cnd_dec]
    constructor
    · intro hlk
      have hlk : k < x.ins.length := by omega
      obtain ⟨y, hy⟩ : ∃ y, x.ins[k]? = some y := ⟨_, List.getElem?_eq_getElem hlk⟩
      have hnk := nBi_le (x.ins.take k)
      have hnk : nBi (x.ins.take k) ≤ k := by simp at hnk; omega
      have hstep : nBi (x.ins.take (k + 1)) = nBi (x.ins.take k) + (bif Nat.beq y.op 10 then 1 else 0) := by
        rw [List.take_add_one, hy, nBi_app]
        simp [nBi]
      try simp only [↓E1, ↓E2, ↓E3, Nat.reduceAdd]
      rw [h9.ld0 1 _ (by omega), k1]
      try simp only [↓E1, ↓E2, ↓E3, Nat.reduceAdd]
      refine hI.at hU hx h9 fun b' o' v' hc0' hc1' hc2' hv' => ?_
      try simp only [↓E1, ↓E2, ↓E3, Nat.reduceAdd]
      rw [h9.ldI hc2']
      try simp only [↓E1, ↓E2, ↓E3, Nat.reduceAdd]
      refine insAt hv' hy h9 fun bi oi hci => ?_
      try simp only [↓E1, ↓E2, ↓E3, Nat.reduceAdd]
      rw [h9.ldI (hci 0 (i64 (y.op : Int)) rfl)]
      try simp only [↓E1, ↓E2, ↓E3, Nat.reduceAdd]
      rw [show decide ((y.op : Int) = 10) = Nat.beq y.op 10 from dec_beq _ _]
      cases hb : Nat.beq y.op 10
      · rw [hb, cond_false] at hstep
        try simp only [↓E1, ↓E2, ↓E3, Nat.reduceAdd]
        rw [wrap64_succ (by omega)]
        exact ⟨x.ins.length - (k + 1), by omega, _, _, rfl, k + 1, by rw [hstep, Nat.add_zero], rfl, rfl, by omega, h9⟩
      · rw [hb, cond_true] at hstep
        try simp only [↓E1, ↓E2, ↓E3, Nat.reduceAdd]
        rw [wrap64_succ (by omega), wrap64_succ (by omega)]
        exact ⟨x.ins.length - (k + 1), by omega, _, _, rfl, k + 1, by rw [hstep, Nat.add_assoc], rfl, rfl, by omega, h9⟩
    · intro hge
      have hkl : k = x.ins.length := by omega
      subst hkl
      try simp only [↓E1, ↓E2, ↓E3, Nat.reduceAdd]
      rw [wrap64_succ (by omega)]
      refine ⟨m.units.length - (i + 1), by omega, _, _, rfl, i + 1, ?_, rfl, rfl, by omega, h9⟩
      rw [List.take_length, List.take_add_one, hx, nB_app]
      simp [nB]
  · intro hge
    have hil : i = m.units.length := by omega
    subst hil
    rw [List.take_length]
    refine h8.ldn0 (c := cc) gl.symm ?_
    try simp only [↓E1, ↓E2, ↓E3, Nat.reduceAdd]
    rw [h8.ld0 2 _ (by omega), k2]
    obtain ⟨aL, cL, rfl, _, _, _⟩ := id hL
    obtain ⟨aN, cN, rfl, _, _, _⟩ := id hN
    obtain ⟨aS, cS, rfl, _, _, _⟩ := id hSe
    try simp only [↓E1, ↓E2, ↓E3, Nat.reduceAdd]
    refine c_used (op := 0) (other := 0) hcv4 htot (by omega) (fun a ha => by simpa using hinv.ul a ha) h8 fun w9 h9 => ?_
    try simp only [↓E1, ↓E2, ↓E3, Nat.reduceAdd]
    refine h9.ldn0 (c := cc) gl.symm ?_
    try simp only [↓E1, ↓E2, ↓E3, Nat.reduceAdd]
    rw [h9.ld0 3 _ (by omega), k3]
    try simp only [↓E1, ↓E2, ↓E3, Nat.reduceAdd]
    refine c_used (op := 5) (other := 5) hcv4 htot (by omega) (fun a ha => by simpa using hinv.un a ha) h9 fun w10 h10 => ?_
    try simp only [↓E1, ↓E2, ↓E3, Nat.reduceAdd]
    refine h10.ldn0 (c := cc) gl.symm ?_
    try simp only [↓E1, ↓E2, ↓E3, Nat.reduceAdd]
    rw [h10.ld0 4 _ (by omega), k4]
    try simp only [↓E1, ↓E2, ↓E3, Nat.reduceAdd]
    refine c_used (op := 8) (other := 9) hcv4 htot (by omega) hinv.us h10 fun w11 h11 => ?_
    try simp only [↓E1, ↓E2, ↓E3, Nat.reduceAdd]
    rw [h11.ld0 1 _ (by omega), k1]
    try simp only [↓E1, ↓E2, ↓E3, Nat.reduceAdd]
    rw [wrap64_of (by omega) (by omega), decide_eq_true (by omega)]
    try simp only [↓E1, ↓E2, ↓E3, Nat.reduceAdd]
    refine c_known h11.tail fun g12 w12 hg12 h12 => ?_
    try simp only [↓E1, ↓E2, ↓E3, Nat.reduceAdd]
    exact hR g12 w12 (hg1.trans (hg4.trans hg12)) h12
end Go.Vx
namespace Go.Vx
open Go Go.Proofs
variable {R : Ending → World → Prop} {g : G} {w : World} {H hp T : Hp}

theorem c_plain {t : List UInt8} (ht : Short t) (hS : Sat g w H) (hR : ∀ w', Sat g w' H → R (.returned (.bool (plainB t))) w') : Tr P F.lex_PlainName [str t] w R := by
  apply t_lex_PlainName
  unfold d_lex_PlainName
  refine bdI (cs := [str t, i64 0]) rfl ?_
  have e : (Value.agg [str t, i64 0].toArray).cells.toList = [str t, i64 0] := by simp [Value.cells]
  rw [e]
  refine hS.al fun r w1 h1 => ?_
  have h1 : Sat g w1 ((r, rdr t 0) :: H) := h1
  simp only [↓E2]
  refine c_name ht (Nat.zero_le _) h1 fun w2 h2 => ?_
  unfold plainB at hR
  have hp := hR w2 h2.tail
  simp only [↓E1, ↓E2, ↓E3]
  cases hn : (nameS t 0).1
  · rw [hn] at hp
    simp only [↓E3]
    exact hp
  · rw [hn, Bool.true_and] at hp
    simp only [↓E1, ↓E2, ↓E3, Nat.reduceAdd]
    rw [h2.ld0 1 _ (by simp)]
    simp only [↓E1, ↓E2, ↓E3, Nat.reduceAdd]
    rw [dec_beq]
    exact hp

theorem dec_ascii {t : List UInt8} {j : Nat} {c : UInt8} (hc : t[j]? = some c) (h : c < 128) : Utf8.decode ⟨t.toArray⟩ j = (c.toNat, 1) := by
  have e : (ByteArray.get! ⟨t.toArray⟩ (j + 0)) = c := by
    show (t.toArray)[j + 0]! = c
    rw [Nat.add_zero]
    have hlt := (List.getElem?_eq_some_iff.1 hc).1
    have := (List.getElem?_eq_some_iff.1 hc).2
    simp [hlt, this]
  unfold Utf8.decode
  simp only [e]
  have : c.toNat < 128 := by simpa [UInt8.lt_iff_toNat_lt] using h
  rw [if_pos (by omega)]

theorem cnt_le (t : List UInt8) : cnt58 t ≤ t.length := by
  induction t with
  | nil => simp [cnt58]
  | cons c t ih => simp only [cnt58, List.length_cons]; cases c == 58 <;> simp <;> omega

theorem c_Args {t : List UInt8} (ht : Short t) (ha : ∀ c ∈ t, c < 128) (hS : Sat g w H) (hR : ∀ w', Sat g w' H → R (.returned (i64 (argsS t : Int))) w') : Tr P F.tree_Args [str t] w R := by
  apply t_tree_Args
  unfold d_tree_Args
  have htl : t.length ≤ 70368744177664 := ht
  refine hS.rgS fun b w1 h1 => ?_
  refine lp1 (fun q x w' => ∃ j, x = i64 ((cnt58 (t.take j) : Nat) : Int) ∧ q = t.length - j ∧ j ≤ t.length ∧ Sat g w' ((b, .stringIter ⟨t.toArray⟩ j) :: H)) t.length ⟨0, rfl, rfl, by omega, h1⟩ ?_
  rintro q x w2 ⟨j, rfl, rfl, hj, h2⟩
  have hsz : (⟨t.toArray⟩ : ByteArray).size = t.length := by simp [ByteArray.size]
  have hcl := cnt_le (t.take j)
  rw [List.length_take] at hcl
  refine h2.nxS (fun hlt w3 h3 => ?_) (fun hge => ?_)
  · rw [hsz] at hlt
    obtain ⟨c, hc⟩ : ∃ c, t[j]? = some c := ⟨_, List.getElem?_eq_getElem hlt⟩
    have hd := dec_ascii hc (ha c (List.mem_of_getElem? hc))
    rw [hd] at h3
    simp only [hd]
    have e : (Value.tuple #[.bool true, i64 (j : Int), .int .i32 (c.toNat : Int)]) = .tuple [.bool true, i64 (j : Int), .int .i32 (c.toNat : Int)].toArray := rfl
    rw [e]
    simp only [↓E1, ↓E2, ↓E3]
    have hnx : cnt58 (t.take (j + 1)) = cnt58 (t.take j) + (bif c == 58 then 1 else 0) := by
      rw [List.take_add_one, hc, cnt_app]
      simp [cnt58]
    rw [show decide ((c.toNat : Int) = 58) = (c == 58) from by
      rw [Bool.eq_iff_iff, decide_eq_true_eq, beq_iff_eq]
      constructor
      · intro h
        have : c.toNat = 58 := by omega
        exact UInt8.toNat_inj.1 this
      · intro h
        subst h
        rfl]
    cases hb : (c == 58)
    · rw [hb, cond_false] at hnx
      simp only [↓E1, ↓E2, ↓E3]
      exact ⟨t.length - (j + 1), by omega, _, rfl, j + 1, by rw [hnx, Nat.add_zero], rfl, by omega, h3⟩
    · rw [hb, cond_true] at hnx
      simp only [↓E1, ↓E2, ↓E3]
      rw [wrap64_succ (by omega)]
      exact ⟨t.length - (j + 1), by omega, _, rfl, j + 1, by rw [hnx], rfl, by omega, h3⟩
  · rw [hsz] at hge
    have hjl : j = t.length := by omega
    subst hjl
    rw [List.take_length]
    have e : (Value.tuple #[.bool false]) = .tuple [.bool false].toArray := rfl
    rw [e]
    simp only [↓E1, ↓E2, ↓E3]
    unfold argsS at hR
    refine c_plain ht h2.tail fun w4 h4 => ?_
    simp only [↓E3]
    have hp := hR w4 h4
    cases hpl : plainB t
    · rw [hpl, cond_false] at hp
      simp only [↓E1, ↓E2, ↓E3]
      cases t with
      | nil =>
        simp only [decide_true, ↓E3]
        exact hp
      | cons c r =>
        have : decide (c :: r = []) = false := rfl
        rw [this]
        simp only [↓E1, ↓E2, ↓E3]
        rw [sl_hi]
        refine ⟨by decide, by simp; omega, ?_⟩
        refine c_plain (t := [c]) (by simp [Short]) h4 fun w5 h5 => ?_
        have hp := hR w5 h5
        rw [hpl, cond_false] at hp
        have et : (c :: r).take 1 = [c] := rfl
        simp only [List.isEmpty_cons, Bool.false_or, et] at hp
        simp only [↓E3]
        cases hp1 : plainB [c]
        · rw [hp1] at hp
          simp only [↓E3]
          exact hp
        · rw [hp1] at hp
          simp only [↓E3]
          exact hp
    · rw [hpl, cond_true] at hp
      simp only [↓E3]
      exact hp
end Go.Vx
namespace Go.Vx
open Go Go.Proofs
variable {R : Ending → World → Prop} {g : G} {w : World} {H hp T : Hp}

/-- What a step needs, and what comes of it. -/
def effS (i : Ins) : Option (Nat × Nat) :=
  bif pushB i.op then some (0, 1)
  else bif Nat.beq i.op 2 || Nat.beq i.op 4 then some (1, 1)
  else bif Nat.beq i.op 8 || Nat.beq i.op 9 then some (i.b, 0)
  else bif Nat.beq i.op 11 then some (1, 2)
  else bif Nat.beq i.op 12 || (Nat.beq i.op 13 || Nat.beq i.op 14) then some (1, 0)
  else none
theorem eff_le {i : Ins} {x : Nat × Nat} (h : effS i = some x) : i.op ≤ 14 := by
  obtain ⟨op, a, b⟩ := i
  simp only [effS, pushB] at h ⊢
  rcases Nat.lt_or_ge 14 op with hlt | hge
  · exfalso
    have ne : ∀ j, j ≤ 14 → Nat.beq op j = false := fun j hj => by
      cases hb : Nat.beq op j with
      | false => rfl
      | true => have := Nat.eq_of_beq_eq_true hb; omega
    rw [ne 0 (by omega), ne 1 (by omega), ne 3 (by omega), ne 5 (by omega), ne 6 (by omega), ne 7 (by omega), ne 10 (by omega), ne 2 (by omega), ne 4 (by omega), ne 8 (by omega), ne 9 (by omega), ne 11 (by omega), ne 12 (by omega), ne 13 (by omega), ne 14 (by omega)] at h
    simp at h
  · exact hge

theorem jnE1 (k : Value → World → Prop) (b : Fn 1 → Prop) : jn 1 k b = b k := rfl
theorem decF : decide False = false := rfl
theorem decT : decide True = true := rfl

theorem c_effect {i : Ins} {nd cm : Nat} (h : effS i = some (nd, cm)) (hS : Sat g w H) (hR : ∀ w', Sat g w' H → R (.returned (.tuple #[i64 (nd : Int), i64 (cm : Int), .bool true])) w') : Tr P F.code_Ins_effect [.agg (insC i).toArray] w R := by
  apply t_code_Ins_effect
  unfold d_code_Ins_effect
  have e : (Value.agg (insC i).toArray).cells.toList = insC i := by simp [Value.cells]
  rw [e]
  have hle := eff_le h
  obtain ⟨op, a, b⟩ := i
  simp only [] at hle
  refine hS.al fun b1 w1 h1 => ?_
  have fin : ∀ x y : Nat, effS ⟨op, a, b⟩ = some (x, y) → ∀ w', Sat g w' ((b1, .cells (insC ⟨op, a, b⟩).toArray 57) :: H) → R (.returned (.tuple #[i64 (x : Int), i64 (y : Int), .bool true])) w' := by
    intro x y hxy w' h'
    rw [h] at hxy
    injection hxy with hxy
    injection hxy with h2 h3
    subst h2 h3
    exact hR w' h'.tail
  simp only [↓E1, Nat.reduceAdd]
  rw [h1.ld0 0 _ (by simp [insC])]
  have k0 : (insC ⟨op, a, b⟩).getD 0 undef = i64 (op : Int) := rfl
  have k2 : (insC ⟨op, a, b⟩).getD 2 undef = i64 (b : Int) := rfl
  have kl : (insC ⟨op, a, b⟩).length = 3 := rfl
  rw [k0]
  generalize insC ⟨op, a, b⟩ = ic at h1 fin k0 k2 kl
  have hop : op = 0 ∨ op = 1 ∨ op = 2 ∨ op = 3 ∨ op = 4 ∨ op = 5 ∨ op = 6 ∨ op = 7 ∨ op = 8 ∨ op = 9 ∨ op = 10 ∨ op = 11 ∨ op = 12 ∨ op = 13 ∨ op = 14 := by omega
  rcases hop with rfl | rfl | rfl | rfl | rfl | rfl | rfl | rfl | rfl | rfl | rfl | rfl | rfl | rfl | rfl
  all_goals simp only [↓E1, ↓E2, ↓E3, ↓jnE1, ↓C1, decF, decT, Int.reduceEq, Int.cast_ofNat_Int, true_implies, false_implies, not_true_eq_false, not_false_eq_true, and_true, true_and, Nat.reduceAdd]
  all_goals try exact fin _ _ rfl _ h1
  all_goals
    have h2 := h1.drew
    rw [h2.ld0 2 _ (by omega), k2, h2.ld0 2 _ (by omega), k2]
    simp only [↓E1]
    rw [decide_eq_true (by omega)]
    exact fin b 0 rfl _ h2

theorem blt_no {a b : Nat} (h : Nat.blt a b = false) : ¬ a < b := fun hlt => by
  rw [← Nat.blt_eq] at hlt
  rw [hlt] at h
  simp at h
theorem ble_no {a b : Nat} (h : Nat.ble a b = false) : ¬ a ≤ b := fun hlt => by
  rw [← Nat.ble_eq] at hlt
  rw [hlt] at h
  simp at h
theorem step_eff {n n' : Nat} {i : Ins} (h : stepS n i = some n') : ∃ nd cm, effS i = some (nd, cm) ∧ nd ≤ n ∧ n' + nd = n + cm ∧ cm ≤ 2 ∧ n' ≤ n + 1 ∧ ((i.op = 8 ∨ i.op = 9) → nd < n) := by
  obtain ⟨op, a, b⟩ := i
  simp only [stepS, effS] at h ⊢
  rcases cond_or h with ⟨h1, h⟩ | ⟨h1, h⟩
  · injection h with h
    rw [h1]
    have h8 : ∀ j, Nat.beq op j = true → op = j := fun j hj => Nat.eq_of_beq_eq_true hj
    refine ⟨0, 1, rfl, by omega, by omega, by omega, by omega, fun h89 => ?_⟩
    exfalso
    rcases h89 with rfl | rfl <;> simp [pushB] at h1
  rw [h1]
  simp only [cond_false]
  rcases cond_or h with ⟨h2, h⟩ | ⟨h2, h⟩
  · rw [h2]
    simp only [cond_true]
    rcases cond_or h with ⟨h3, h⟩ | ⟨h3, h⟩
    · simp at h
    · injection h with h
      have := blt_no h3
      refine ⟨1, 1, rfl, by omega, by omega, by omega, by omega, fun h89 => ?_⟩
      exfalso
      rcases h89 with rfl | rfl <;> simp at h2
  rw [h2]
  simp only [cond_false]
  rcases cond_or h with ⟨h3, h⟩ | ⟨h3, h⟩
  · rw [h3]
    simp only [cond_true]
    rcases cond_or h with ⟨h4, h⟩ | ⟨h4, h⟩
    · simp at h
    · injection h with h
      have := ble_no h4
      exact ⟨b, 0, rfl, by omega, by omega, by omega, by omega, fun _ => by omega⟩
  rw [h3]
  simp only [cond_false]
  have no : ¬ (op = 8 ∨ op = 9) := fun h89 => by rcases h89 with rfl | rfl <;> simp at h3
  rcases cond_or h with ⟨h4, h⟩ | ⟨h4, h⟩
  · rw [h4]
    simp only [cond_true]
    rcases cond_or h with ⟨h5, h⟩ | ⟨h5, h⟩
    · simp at h
    · injection h with h
      have := blt_no h5
      exact ⟨1, 2, rfl, by omega, by omega, by omega, by omega, fun h => absurd h no⟩
  rw [h4]
  simp only [cond_false]
  rcases cond_or h with ⟨h5, h⟩ | ⟨h5, h⟩
  · rw [h5]
    simp only [cond_true]
    rcases cond_or h with ⟨h6, h⟩ | ⟨h6, h⟩
    · simp at h
    · injection h with h
      have := blt_no h6
      exact ⟨1, 0, rfl, by omega, by omega, by omega, by omega, fun h => absurd h no⟩
  · simp at h

theorem hgt_take {l : List Ins} : ∀ {n n' : Nat}, hgt l n = some n' → ∀ {j : Nat} {x : Ins}, l[j]? = some x → ∃ q q', hgt (l.take j) n = some q ∧ stepS q x = some q' ∧ hgt (l.take (j + 1)) n = some q' ∧ q ≤ n + j := by
  induction l with
  | nil => intro n n' _ j x hx; simp at hx
  | cons i l ih =>
    intro n n' h j x hx
    simp only [hgt] at h
    cases hs : stepS n i with
    | none => rw [hs] at h; simp at h
    | some q =>
      rw [hs] at h
      obtain ⟨_, _, _, _, _, _, hle, _⟩ := step_eff hs
      cases j with
      | zero =>
        simp at hx
        subst hx
        exact ⟨n, q, rfl, hs, by simp [hgt, hs], by omega⟩
      | succ j =>
        obtain ⟨a, b, h1, h2, h3, h4⟩ := ih h (j := j) (x := x) (by simpa using hx)
        exact ⟨a, b, by simp [hgt, hs, h1], h2, by simp only [List.take_succ_cons, hgt, hs]; exact h3, by omega⟩

theorem lp6 {a b c d e f : Value} {body : (List Value → World → Prop) → Fn 6} (I : Nat → Value → Value → Value → Value → Value → Value → World → Prop) (m : Nat) (h0 : I m a b c d e f w) (hs : ∀ m a b c d e f w, I m a b c d e f w → body (fun vs w' => ∃ m', m' < m ∧ ∃ a b c d e f, vs = [a, b, c, d, e, f] ∧ I m' a b c d e f w') a b c d e f w) : lp 6 [a, b, c, d, e, f] body w := by
  refine ⟨fun m vs w => ∃ a b c d e f, vs = [a, b, c, d, e, f] ∧ I m a b c d e f w, ⟨m, a, b, c, d, e, f, rfl, h0⟩, fun m a b c d e f w h => ?_⟩
  obtain ⟨a', b', c', d', e', f', he, h⟩ := h
  injection he with h1 h2; injection h2 with h2 h3; injection h3 with h3 h4; injection h4 with h4 h5; injection h5 with h5 h6; injection h6 with h6; subst h1 h2 h3 h4 h5 h6
  exact hs m a b c d e f w h

theorem jn7 {k : Fn 7} {b : Fn 7 → Prop} (J : Value → World → Prop) (h1 : ∀ x a1 a2 a3 a4 a5 a6 w, J x w → k x a1 a2 a3 a4 a5 a6 w) (h2 : ∀ k : Value → Value → Value → Value → Value → Value → Value → World → Prop, (∀ x a1 a2 a3 a4 a5 a6 w, J x w → k x a1 a2 a3 a4 a5 a6 w) → b k) : jn 7 k b := h2 k h1
theorem jn4 {k : Fn 4} {b : Fn 4 → Prop} (J : Value → World → Prop) (h1 : ∀ a1 a2 a3 x w, J x w → k a1 a2 a3 x w) (h2 : ∀ k : Value → Value → Value → Value → World → Prop, (∀ a1 a2 a3 x w, J x w → k a1 a2 a3 x w) → b k) : jn 4 k b := h2 k h1
/-- A unit's cells. -/
abbrev uC (x : CU) (v : Value) : List Value := [i64 (x.args : Int), i64 (x.names : Int), v]
theorem c_run {x : CU} {v : Value} (hv : Sl g 3 v x.ins.length (insZ x.ins)) (hl : x.ins.length ≤ 1073741824) (hgo : hgt x.ins 0 = some 0) (hS : Sat g w H)
    (hR : ∀ (q : Nat) w', q ≤ 1073741824 → Sat g w' H → R (.returned (.tuple #[i64 (q : Int), i64 0, .bool true])) w') : Tr P F.code_Unit_run [.agg (uC x v).toArray] w R := by
  apply t_code_Unit_run
  unfold d_code_Unit_run
  have e : (Value.agg (uC x v).toArray).cells.toList = uC x v := by simp [Value.cells]
  rw [e]
  obtain ⟨av, cv, rfl, _, _, _⟩ := id hv
  refine hS.al fun b1 w1 h1 => ?_
  simp only [↓E1, ↓E2, ↓E3, Nat.reduceAdd]
  rw [h1.ld0 2 _ (by simp)]
  simp only [↓E1, ↓E2, ↓E3, Nat.reduceAdd]
  have h1 := h1.tail
  refine lp6 (fun q a b c d e f w' => ∃ j mx hh : Nat, d = i64 (mx : Int) ∧ e = i64 (hh : Int) ∧ f = i64 (j : Int) ∧ q = x.ins.length - j ∧ j ≤ x.ins.length ∧ mx ≤ j ∧ hh ≤ j ∧ hgt (x.ins.take j) 0 = some hh ∧ Sat g w' H) x.ins.length
    ⟨0, 0, 0, rfl, rfl, rfl, rfl, by omega, by omega, by omega, rfl, h1⟩ ?_
  rintro q x2 x3 x4 x5 x6 x15 w2 ⟨j, mx, hh, rfl, rfl, rfl, rfl, hj, hmx, hhh, hg, h2⟩
  simp only [↓E1, ↓E2, ↓E3, Nat.reduceAdd]
  rw [cnd_dec]
  constructor
  · intro hlt
    have hlt : j < x.ins.length := by omega
    obtain ⟨i, hi⟩ : ∃ i, x.ins[j]? = some i := ⟨_, List.getElem?_eq_getElem hlt⟩
    obtain ⟨q1, q2, hq1, hq2, hq3, hq4⟩ := hgt_take hgo hi
    rw [hg] at hq1
    injection hq1 with hq1
    subst hq1
    obtain ⟨nd, cm, hef, hnd, hcm, hcm2, hle2, h89⟩ := step_eff hq2
    refine insAt hv hi h2 fun bi oi hci => ?_
    refine h2.ldnI (vs := insC i) hci ?_
    refine h2.al fun b8 w3 h3 => ?_
    refine st_all (c := insC i) (c2 := [.int .i64 0, .int .i64 0, .int .i64 0]) h3 rfl rfl rfl fun w4 h4 => ?_
    refine h4.ldn0 (c := insC i) rfl ?_
    try simp only [↓E2]
    refine c_effect hef h4 fun w5 h5 => ?_
    have et : (Value.tuple #[i64 (nd : Int), i64 (cm : Int), .bool true]) = .tuple [i64 (nd : Int), i64 (cm : Int), .bool true].toArray := rfl
    rw [et]
    simp only [↓E2, ↓E3]
    refine jn7 (fun x11 w' => x11 = .bool true ∧ Sat g w' H) ?_ ?_
    · rintro x11 a1 a2 a3 a4 a5 a6 w6 ⟨rfl, h6⟩
      refine jnI ?_
      simp only [↓E1, ↓E2, ↓E3, Bool.not_true]
      rw [decide_eq_false (by omega)]
      simp only [↓E1, ↓E2, ↓E3]
      have e1 : IntKind.i64.wrap ((cm : Int) - (nd : Int)) = (cm : Int) - (nd : Int) := wrap64_of (by omega) (by omega)
      have e2 : IntKind.i64.wrap ((hh : Int) + ((cm : Int) - (nd : Int))) = (q2 : Int) := by rw [wrap64_of (by omega) (by omega)]; omega
      rw [e1, e2, wrap64_succ (by omega)]
      have e3 : (if (mx : Int) < (q2 : Int) then (q2 : Int) else (mx : Int)) = ((max mx q2 : Nat) : Int) := by split <;> omega
      rw [e3]
      exact ⟨x.ins.length - (j + 1), by omega, _, _, _, _, _, _, rfl, j + 1, max mx q2, q2, rfl, rfl, rfl, rfl, by omega, by omega, by omega, hq3, h6⟩
    · intro k2 hk2
      refine jn4 (fun x32 w' => x32 = .bool (Nat.beq i.op 8 || Nat.beq i.op 9) ∧ Sat g w' H) ?_ ?_
      · rintro a1 a2 a3 x32 w6 ⟨rfl, h6⟩
        cases hb : (Nat.beq i.op 8 || Nat.beq i.op 9)
        · simp only [↓E3]
          intro v1 v2 v3
          exact hk2 _ _ _ _ _ _ _ _ ⟨rfl, h6⟩
        · have h89' : i.op = 8 ∨ i.op = 9 := by
            rw [Bool.or_eq_true] at hb
            rcases hb with hb | hb
            · exact .inl (Nat.eq_of_beq_eq_true hb)
            · exact .inr (Nat.eq_of_beq_eq_true hb)
          have := h89 h89'
          simp only [↓E1, ↓E2, ↓E3]
          rw [decide_eq_true (by omega)]
          exact hk2 _ _ _ _ _ _ _ _ ⟨rfl, h6⟩
      · intro k4 hk4
        simp only [↓E1, ↓E2, ↓E3, Nat.reduceAdd]
        have k0 : (insC i).getD 0 undef = i64 (i.op : Int) := rfl
        rw [h5.ld0 0 _ (by simp [insC]), k0]
        simp only [↓E1, ↓E2, ↓E3]
        rw [show decide ((i.op : Int) = 8) = Nat.beq i.op 8 from dec_beq _ _]
        cases h8 : Nat.beq i.op 8
        · simp only [↓E1, ↓E2, ↓E3, Nat.reduceAdd]
          rw [h5.ld0 0 _ (by simp [insC]), k0]
          simp only [↓E1, ↓E2, ↓E3]
          rw [show decide ((i.op : Int) = 9) = Nat.beq i.op 9 from dec_beq _ _]
          exact hk4 _ _ _ _ _ ⟨by rw [h8]; rfl, h5.tail⟩
        · simp only [↓E3]
          exact hk4 _ _ _ _ _ ⟨by rw [h8]; rfl, h5.tail⟩
  · intro hge
    have hjl : j = x.ins.length := by omega
    subst hjl
    rw [List.take_length, hgo] at hg
    injection hg with hg
    subst hg
    exact hR mx w2 (by omega) h2
end Go.Vx
namespace Go.Vx
open Go Go.Proofs
variable {R : Ending → World → Prop} {g : G} {w : World} {H hp T : Hp}

theorem jn4' {k : Fn 4} {b : Fn 4 → Prop} (J : Value → World → Prop) (h1 : ∀ x a1 a2 a3 w, J x w → k x a1 a2 a3 w) (h2 : ∀ k : Value → Value → Value → Value → World → Prop, (∀ x a1 a2 a3 w, J x w → k x a1 a2 a3 w) → b k) : jn 4 k b := h2 k h1
theorem c_names {cv : List Value} {sel : List UInt8} {m : MK} (hC : CodeR g cv sel m) {sl : Nat} {i : Ins} (hn : NamB m sl i) (hop : i.op ≤ 14) (hS : Sat g w H)
    (hR : ∀ w', Sat g w' H → R (.returned (.bool true)) w') : Tr P F.code_Code_names [.agg cv.toArray, .agg (insC i).toArray, i64 (sl : Int)] w R := by
  apply t_code_Code_names
  unfold d_code_Code_names
  obtain ⟨vU, cU, vL, vN, vS, rfl, hI, hU, hL, hN, hSe⟩ := hC
  have e : (Value.agg [str sel, vU, vL, vN, vS].toArray).cells.toList = [str sel, vU, vL, vN, vS] := by simp [Value.cells]
  have e2 : (Value.agg (insC i).toArray).cells.toList = insC i := by simp [Value.cells]
  rw [e, e2]
  obtain ⟨op, a, b⟩ := i
  simp only [] at hop
  refine hS.al fun b3 w1 h1 => h1.al fun b4 w2 h2 => ?_
  have k0 : (insC ⟨op, a, b⟩).getD 0 undef = i64 (op : Int) := rfl
  have k1 : (insC ⟨op, a, b⟩).getD 1 undef = i64 (a : Int) := rfl
  have k2 : (insC ⟨op, a, b⟩).getD 2 undef = i64 (b : Int) := rfl
  have kl : (insC ⟨op, a, b⟩).length = 3 := rfl
  have kb : (insC ⟨op, a, b⟩)[2]? = some (i64 (b : Int)) := rfl
  generalize insC ⟨op, a, b⟩ = ic at h2 k0 k1 k2 kl kb
  obtain ⟨aL, cL, rfl, _, _, _⟩ := id hL
  obtain ⟨aN, cN, rfl, _, _, _⟩ := id hN
  obtain ⟨aS, cS, rfl, _, _, _⟩ := id hSe
  obtain ⟨aU, cpU, rfl, _, _, _⟩ := id hU
  have fin : ∀ w', Sat g w' ((b4, .cells ic.toArray 57) :: (b3, .cells [str sel, .slice aU m.units.length cpU, .slice aL m.lits.length cL, .slice aN m.names.length cN, .slice aS m.sels.length cS].toArray 25) :: H) → R (.returned (.bool true)) w' := fun w' h => hR w' h.tail.tail
  refine jnI ?_
  simp only [↓E1, Nat.reduceAdd]
  rw [h2.ld0 1 _ (by omega), k1]
  simp only [↓E1]
  rw [decide_eq_false (by omega)]
  simp only [↓E1, ↓E3, Nat.reduceAdd]
  rw [h2.ld0 2 _ (by omega), k2]
  simp only [↓E1]
  rw [decide_eq_false (by omega)]
  simp only [↓E1, ↓E3, Nat.reduceAdd]
  rw [h2.ld0 0 _ (by omega), k0]
  have hcases : op = 0 ∨ op = 1 ∨ op = 2 ∨ op = 3 ∨ op = 4 ∨ op = 5 ∨ op = 6 ∨ op = 7 ∨ op = 8 ∨ op = 9 ∨ op = 10 ∨ op = 11 ∨ op = 12 ∨ op = 13 ∨ op = 14 := by omega
  have sends : op = 8 ∨ op = 9 → Vx.fa 1 (ptr b4 0) (fun t48 w => ld t48 (fun t49 w => fa 4 (ptr b3 0) (fun t50 w => ld t50 (fun t51 w => lnL t51 (fun t52 w => bI .lss .i64 t49 t52 (fun t53 w =>
      cnd t53 (fa 2 (ptr b4 0) (fun t55 w => ld t55 (fun t56 w => fa 4 (ptr b3 0) (fun t57 w => ld t57 (fun t58 w => fa 1 (ptr b4 0) (fun t59 w => ld t59 (fun t60 w => ia 1 t58 t60 (fun t61 w => ld t61 (fun t62 w =>
        cl P F.tree_Args [t62] (fun t63 w => rk false t55 t56 (bI .eql .i64 t56 t63 (fun t64 w => R (.returned t64) w) w) w) (fun ch w => R (.panicked ch) w) w) w) w) w) w) w) w) w) w) (R (.returned (.bool false)) w)) w) w) w) w) w) w2.drew := by
    intro h89
    obtain ⟨t, ht, ⟨⟨hargs, hasc⟩, hlen⟩⟩ := hn.sel h89
    simp only [] at ht hargs
    have hlt := (List.getElem?_eq_some_iff.1 ht).1
    have h3 := h2.drew
    try simp only [↓E1, Nat.reduceAdd]
    rw [h3.ld0 1 _ (by omega), k1]
    try simp only [↓E1, Nat.reduceAdd]
    rw [h3.ld1 4 _ (by simp)]
    try simp only [↓E1, ↓E2, ↓E3, Nat.reduceAdd]
    rw [decide_eq_true (by omega)]
    try simp only [↓E1, ↓E3, Nat.reduceAdd]
    rw [h3.ld0 2 _ (by omega), k2]
    try simp only [↓E1, Nat.reduceAdd]
    rw [h3.ld1 4 _ (by simp)]
    try simp only [↓E1, ↓E3, Nat.reduceAdd]
    rw [h3.ld0 1 _ (by omega), k1]
    refine SS.cell hSe h3 ht fun bt ot hbt => ?_
    rw [h3.ldI hbt]
    try simp only [↓E2]
    refine c_Args (by unfold Short; omega) hasc h3 fun w4 h4 => ?_
    try simp only [↓E3]
    refine h4.rk (b := b4) (t := 57) (fr := (0, 0)) (c := ic) (by simp) kb ?_
    try simp only [↓E1]
    rw [decide_eq_true (by rw [hargs])]
    exact fin w4 h4
  rcases hcases with rfl | rfl | rfl | rfl | rfl | rfl | rfl | rfl | rfl | rfl | rfl | rfl | rfl | rfl | rfl
  all_goals simp only [↓E1, ↓E2, ↓E3, ↓jnE1, ↓C1, decF, decT, Int.reduceEq, Int.cast_ofNat_Int, true_implies, false_implies, not_true_eq_false, not_false_eq_true, and_true, true_and, Nat.reduceAdd]
  all_goals try exact fin _ h2
  · have := hn.lit rfl
    simp only [] at this
    rw [h2.ld0 1 _ (by omega), k1, h2.ld1 2 _ (by simp)]
    try simp only [↓E1, ↓E2, ↓E3]
    rw [decide_eq_true (by omega)]
    exact fin _ h2
  · have := hn.slot (.inl rfl)
    simp only [] at this
    rw [h2.ld0 1 _ (by omega), k1]
    try simp only [↓E1, ↓E2, ↓E3]
    rw [decide_eq_true (by omega)]
    exact fin _ h2
  · have := hn.slot (.inr rfl)
    simp only [] at this
    rw [h2.ld0 1 _ (by omega), k1]
    try simp only [↓E1, ↓E2, ↓E3]
    rw [decide_eq_true (by omega)]
    exact fin _ h2
  · have := hn.glob rfl
    simp only [] at this
    rw [h2.ld0 1 _ (by omega), k1, h2.ld1 3 _ (by simp)]
    try simp only [↓E1, ↓E2, ↓E3]
    rw [decide_eq_true (by omega)]
    exact fin _ h2
  · have := hn.con rfl
    simp only [] at this
    rw [h2.ld0 1 _ (by omega), k1]
    try simp only [↓E1, ↓E2, ↓E3]
    rw [decide_eq_true (by omega)]
    exact fin _ h2
  · have := sends (.inl rfl)
    try simp only [↓E1, ↓E2, ↓E3, Nat.reduceAdd] at this
    exact this
  · have := sends (.inr rfl)
    try simp only [↓E1, ↓E2, ↓E3, Nat.reduceAdd] at this
    exact this
  · have := hn.blk rfl
    simp only [] at this
    rw [h2.ld0 1 _ (by omega), k1, h2.ld1 1 _ (by simp)]
    try simp only [↓E1, ↓E2, ↓E3]
    rw [decide_eq_true (by omega)]
    exact fin _ h2

theorem last_at {m : MK} {sl : Nat} {x : CU} (h : GoodU m sl x) {j : Nat} {i : Ins} (hi : x.ins[j]? = some i) : (Nat.beq i.op 13 || Nat.beq i.op 14) = Nat.beq j (x.ins.length - 1) := by
  obtain ⟨l, e, he, hop, hno⟩ := h.last
  rw [he] at hi ⊢
  have hlen : (l ++ [e]).length - 1 = l.length := by simp
  rw [hlen]
  by_cases hj : j < l.length
  · rw [List.getElem?_append_left hj] at hi
    have := hno i (List.mem_of_getElem? hi)
    have n1 : Nat.beq i.op 13 = false := by
      cases hb : Nat.beq i.op 13 with
      | false => rfl
      | true => exact absurd (Nat.eq_of_beq_eq_true hb) this.1
    have n2 : Nat.beq i.op 14 = false := by
      cases hb : Nat.beq i.op 14 with
      | false => rfl
      | true => exact absurd (Nat.eq_of_beq_eq_true hb) this.2
    have n3 : Nat.beq j l.length = false := by
      cases hb : Nat.beq j l.length with
      | false => rfl
      | true => have := Nat.eq_of_beq_eq_true hb; omega
    rw [n1, n2, n3]
    rfl
  · have hlt := (List.getElem?_eq_some_iff.1 hi).1
    simp only [List.length_append, List.length_cons, List.length_nil] at hlt
    have hjl : j = l.length := by omega
    subst hjl
    rw [List.getElem?_append_right (Nat.le_refl _)] at hi
    simp at hi
    subst hi
    rw [Nat.beq_refl]
    rcases hop with h | h
    · rw [h]; rfl
    · rw [h]; rfl
theorem op_le {m : MK} {sl : Nat} {x : CU} (h : GoodU m sl x) {j : Nat} {i : Ins} (hi : x.ins[j]? = some i) : i.op ≤ 14 := by
  obtain ⟨q, q', _, hs, _, _⟩ := hgt_take h.run hi
  obtain ⟨nd, cm, he, _⟩ := step_eff hs
  exact eff_le he

theorem c_good {cv : List Value} {sel : List UInt8} {m : MK} (hC : CodeR g cv sel m) {sl : Nat} {x : CU} {v : Value} (hv : Sl g 3 v x.ins.length (insZ x.ins)) (hl : x.ins.length ≤ 1073741824) (hG : GoodU m sl x) (hS : Sat g w H)
    (hR : ∀ w', Sat g w' H → R (.returned (.bool true)) w') : Tr P F.code_Code_good [.agg cv.toArray, .agg (uC x v).toArray, i64 (sl : Int)] w R := by
  apply t_code_Code_good
  unfold d_code_Code_good
  have e : (Value.agg cv.toArray).cells.toList = cv := by simp [Value.cells]
  have e2 : (Value.agg (uC x v).toArray).cells.toList = uC x v := by simp [Value.cells]
  rw [e, e2]
  have hcl := hC.len.1
  obtain ⟨av, cpv, rfl, _, _, _⟩ := id hv
  obtain ⟨uc, huc⟩ : ∃ uc, uc = uC x (.slice av x.ins.length cpv) := ⟨_, rfl⟩
  rw [← huc]
  have u0 : uc.getD 0 undef = i64 (x.args : Int) := by rw [huc]; rfl
  have u1 : uc.getD 1 undef = i64 (x.names : Int) := by rw [huc]; rfl
  have u2 : uc.getD 2 undef = .slice av x.ins.length cpv := by rw [huc]; rfl
  have ul : uc.length = 3 := by rw [huc]; rfl
  refine hS.al fun b3 w1 h1 => h1.al fun b4 w2 h2 => ?_
  have hne : x.ins.length ≠ 0 := by
    obtain ⟨l, i, he, _⟩ := hG.last
    rw [he]
    simp
  have ha := hG.args
  refine h2.ldn0 (c := uc) ul.symm ?_
  try simp only [↓E2]
  have hrun : ∀ {R' : Ending → World → Prop}, (∀ (q : Nat) w', q ≤ 1073741824 → Sat g w' ((b4, .cells uc.toArray 56) :: (b3, .cells cv.toArray 25) :: H) → R' (.returned (.tuple #[i64 (q : Int), i64 0, .bool true])) w') → Tr P F.code_Unit_run [.agg uc.toArray] w2 R' := by
    intro R' h
    rw [huc] at h h2 ⊢
    exact c_run hv hl hG.run h2 h
  refine hrun fun q w3 hq h3 => ?_
  have et : (Value.tuple #[i64 (q : Int), i64 0, .bool true]) = .tuple [i64 (q : Int), i64 0, .bool true].toArray := rfl
  rw [et]
  try simp only [↓E2, ↓E3]
  clear h2 h1
  refine jn1 (fun y w' => Sat g w' ((b4, .cells uc.toArray 56) :: (b3, .cells cv.toArray 25) :: H)) ?_ ?_
  rotate_left
  · intro k1 hk1
    try simp only [↓E1, ↓E2, ↓E3, Bool.not_true, decide_true]
    rw [h3.ld0 2 _ (by omega), u2]
    try simp only [↓E1, ↓E2, ↓E3, Nat.reduceAdd]
    rw [decide_eq_false (by omega)]
    try simp only [↓E1, ↓E2, ↓E3, Nat.reduceAdd]
    rw [h3.ld0 0 _ (by omega), u0]
    try simp only [↓E1, ↓E2, ↓E3, Nat.reduceAdd]
    rw [decide_eq_false (by omega)]
    try simp only [↓E1, ↓E2, ↓E3, Nat.reduceAdd]
    rw [h3.ld0 0 _ (by omega), u0]
    try simp only [↓E1, ↓E2, ↓E3, Nat.reduceAdd]
    rw [h3.ld0 1 _ (by omega), u1]
    try simp only [↓E1, ↓E2, ↓E3, Nat.reduceAdd]
    rw [decide_eq_false (by omega)]
    try simp only [↓E1, ↓E2, ↓E3, Nat.reduceAdd]
    exact hk1 _ _ h3
  intro y w4 h4
  clear h3
  try simp only [↓E1, ↓E2, ↓E3, Nat.reduceAdd]
  rw [h4.ld0 2 _ (by omega), u2]
  try simp only [↓E1, ↓E2, ↓E3, Nat.reduceAdd]
  refine lp2 (fun q a b w' => ∃ j, b = i64 ((j : Nat) : Int) ∧ q = x.ins.length - j ∧ j ≤ x.ins.length ∧ Sat g w' ((b4, .cells uc.toArray 56) :: (b3, .cells cv.toArray 25) :: H)) x.ins.length ⟨0, rfl, rfl, by omega, h4⟩ ?_
  rintro q a b w5 ⟨j, rfl, rfl, hj, h5⟩
  clear h4
  try simp only [↓E1, ↓E2, ↓E3, Nat.reduceAdd]
  rw [cnd_dec]
  constructor
  · intro hlt
    have hlt : j < x.ins.length := by omega
    obtain ⟨i, hi⟩ : ∃ i, x.ins[j]? = some i := ⟨_, List.getElem?_eq_getElem hlt⟩
    have hlast := last_at hG hi
    refine insAt hv hi h5 fun bi oi hci => ?_
    refine h5.ldnI (vs := insC i) hci ?_
    refine h5.al fun b11 w6 h6 => ?_
    refine st_all (c := insC i) (c2 := [.int .i64 0, .int .i64 0, .int .i64 0]) h6 rfl rfl rfl fun w7 h7 => ?_
    refine jn4' (fun x12 w' => x12 = .bool (Nat.beq i.op 13 || Nat.beq i.op 14) ∧ Sat g w' ((b11, .cells (insC i).toArray 57) :: (b4, .cells uc.toArray 56) :: (b3, .cells cv.toArray 25) :: H)) ?_ ?_
    · rintro x12 a1 a2 a3 w8 ⟨rfl, h8⟩
      try simp only [↓E1, ↓E2, ↓E3, Nat.reduceAdd]
      rw [h8.ld1 2 _ (by omega), u2]
      try simp only [↓E1, ↓E2, ↓E3, Nat.reduceAdd]
      rw [wrap64_of (by omega) (by omega)]
      have ed : decide ((j : Int) = (x.ins.length : Int) - 1) = Nat.beq j (x.ins.length - 1) := by
        rw [← dec_beq]
        congr 1
        apply propext
        omega
      rw [ed, bB_neq, hlast, bne_self_eq_false]
      try simp only [↓E3]
      refine h8.ldnH (b := b3) (c := cv) (t := 25) (fr := (0, 0)) (by simp) 5 0 (by omega) ?_
      rw [List.drop_zero, List.take_of_length_le (by omega)]
      refine h8.ldn0 (c := insC i) rfl ?_
      try simp only [↓E2]
      refine c_names hC (hG.nam i (List.mem_of_getElem? hi)) (op_le hG hi) h8 fun w9 h9 => ?_
      try simp only [↓E1, ↓E2, ↓E3, Bool.not_true]
      rw [wrap64_succ (by omega)]
      exact ⟨x.ins.length - (j + 1), by omega, _, _, rfl, j + 1, rfl, rfl, by omega, h9.tail⟩
    · intro k3 hk3
      have k0 : (insC i).getD 0 undef = i64 (i.op : Int) := rfl
      try simp only [↓E1, ↓E2, ↓E3, Nat.reduceAdd]
      rw [h7.ld0 0 _ (by simp [insC]), k0]
      try simp only [↓E1, ↓E2, ↓E3, Nat.reduceAdd]
      rw [show decide ((i.op : Int) = 13) = Nat.beq i.op 13 from dec_beq _ _]
      cases h13 : Nat.beq i.op 13
      · try simp only [↓E1, ↓E2, ↓E3, Nat.reduceAdd]
        rw [h7.ld0 0 _ (by simp [insC]), k0]
        try simp only [↓E1, ↓E2, ↓E3, Nat.reduceAdd]
        rw [show decide ((i.op : Int) = 14) = Nat.beq i.op 14 from dec_beq _ _]
        exact hk3 _ _ _ _ _ ⟨by rw [h13]; rfl, h7⟩
      · try simp only [↓E1, ↓E2, ↓E3, Nat.reduceAdd]
        exact hk3 _ _ _ _ _ ⟨by rw [h13]; rfl, h7⟩
  · intro _
    exact hR w5 h5.tail.tail

theorem c_Check {cv : List Value} {sel : List UInt8} {m : MK} (hC : CodeR g cv sel m) (hm : tot m ≤ 1073741824) {sl : Nat} (hG : ∀ x ∈ m.units, GoodU m sl x) (h0 : 0 < m.units.length) (hS : Sat g w H)
    (hR : ∀ w', Sat g w' H → R (.returned (i64 0)) w') : Tr P F.code_Check [.agg cv.toArray, i64 (sl : Int)] w R := by
  apply t_code_Check
  unfold d_code_Check
  have e : (Value.agg cv.toArray).cells.toList = cv := by simp [Value.cells]
  rw [e]
  have hC0 := hC
  have hcl := hC.len.1
  unfold tot at hm
  obtain ⟨vU, cU, vL, vN, vS, hcv, hI, hU, hL, hN, hSe⟩ := hC
  obtain ⟨aU, cpU, rfl, _, _, _⟩ := id hU
  have g1 : cv.getD 1 undef = .slice aU m.units.length cpU := by rw [hcv]; rfl
  refine hS.al fun b2 w1 h1 => ?_
  try simp only [↓E1, ↓E2, ↓E3, Nat.reduceAdd]
  rw [h1.ld0 1 _ (by omega), g1]
  try simp only [↓E1, ↓E2, ↓E3, Nat.reduceAdd]
  rw [decide_eq_false (by omega)]
  try simp only [↓E1, ↓E2, ↓E3, Nat.reduceAdd]
  rw [h1.ld0 1 _ (by omega), g1]
  try simp only [↓E1, ↓E2, ↓E3, Nat.reduceAdd]
  refine lp2 (fun q a b w' => ∃ j, b = i64 ((j : Nat) : Int) ∧ q = m.units.length - j ∧ j ≤ m.units.length ∧ Sat g w' ((b2, .cells cv.toArray 25) :: H)) m.units.length ⟨0, rfl, rfl, by omega, h1⟩ ?_
  rintro q a b w2 ⟨j, rfl, rfl, hj, h2⟩
  clear h1
  try simp only [↓E1, ↓E2, ↓E3, Nat.reduceAdd]
  rw [cnd_dec]
  constructor
  · intro hlt
    have hlt : j < m.units.length := by omega
    obtain ⟨x, hx⟩ : ∃ x, m.units[j]? = some x := ⟨_, List.getElem?_eq_getElem hlt⟩
    have hxl := insT_at hx
    refine hI.at hU hx h2 fun b o v hc0 hc1 hc2 hv => ?_
    refine h2.ldnI (vs := uC x v) (fun j y hy => by
      match j, hy with
      | 0, hy => simp at hy; subst hy; exact hc0
      | 1, hy => simp at hy; subst hy; exact hc1
      | 2, hy => simp at hy; subst hy; exact hc2
      | j + 3, hy => simp at hy) ?_
    refine h2.al fun b6 w3 h3 => ?_
    refine st_all (c := uC x v) (c2 := [.int .i64 0, .int .i64 0, .slice none 0 0]) h3 rfl rfl (by simp only [allOne, hv.one]; rfl) fun w4 h4 => ?_
    refine h4.ldnH (b := b2) (c := cv) (t := 25) (fr := (0, 0)) (by simp) 5 0 (by omega) ?_
    rw [List.drop_zero, List.take_of_length_le (by omega)]
    refine h4.ldn0 (c := uC x v) rfl ?_
    try simp only [↓E2]
    refine c_good hC0 hv (by omega) (hG x (List.mem_of_getElem? hx)) h4 fun w5 h5 => ?_
    try simp only [↓E1, ↓E2, ↓E3, Bool.not_true]
    rw [wrap64_succ (by omega)]
    exact ⟨m.units.length - (j + 1), by omega, _, _, rfl, j + 1, rfl, rfl, by omega, h5.tail⟩
  · intro _
    exact hR w2 h2.tail
end Go.Vx
namespace Go.Vx
open Go Go.Proofs
variable {R : Ending → World → Prop} {g : G} {w : World} {H hp T : Hp}

theorem letter07_fact (c : UInt8) : (if (97 : Int) ≤ c.toNat then (if (c.toNat : Int) ≤ 122 then true else if (65 : Int) ≤ c.toNat then decide ((c.toNat : Int) ≤ 90) else false) else if (65 : Int) ≤ c.toNat then decide ((c.toNat : Int) ≤ 90) else false) = letterB c := by
  have := u8_all (p := fun c => (if (97 : Int) ≤ c.toNat then (if (c.toNat : Int) ≤ 122 then true else if (65 : Int) ≤ c.toNat then decide ((c.toNat : Int) ≤ 90) else false) else if (65 : Int) ≤ c.toNat then decide ((c.toNat : Int) ≤ 90) else false) == letterB c) (by kernel_rfl) c
  simpa using this
theorem c_letter07 {c : UInt8} (hR : R (.returned (.bool (letterB c))) w) : Tr P F.ref07_letter [byt c] w R := by
  apply t_ref07_letter
  unfold d_ref07_letter
  rw [← letter07_fact] at hR
  simp only [↓E1, ↓C1]
  refine ⟨fun h => ⟨fun h2 => ?_, fun h2 => ⟨fun h3 => ?_, fun h3 => ?_⟩⟩, fun h => ⟨fun h3 => ?_, fun h3 => ?_⟩⟩
  · rw [if_pos h, if_pos h2] at hR; exact hR
  · rw [if_pos h, if_neg h2, if_pos h3] at hR; exact hR
  · rw [if_pos h, if_neg h2, if_neg h3] at hR; exact hR
  · rw [if_neg h, if_pos h3] at hR; exact hR
  · rw [if_neg h, if_neg h3] at hR; exact hR
theorem c_digit07 {c : UInt8} (hR : R (.returned (.bool (digitB c))) w) : Tr P F.ref07_digit [byt c] w R := by
  apply t_ref07_digit
  unfold d_ref07_digit
  simp only [↓E1, ↓C1]
  rw [← digit_fact] at hR
  constructor
  · intro h; rw [if_pos h] at hR; exact hR
  · intro h; rw [if_neg h] at hR; exact hR

theorem c_name07 {s : List UInt8} {i : Nat} (hs : Short s) (hi : i ≤ s.length) (hS : Sat g w H) (hR : ∀ w', Sat g w' H → R (.returned (i64 ((nameS s i).2 : Int))) w') : Tr P F.ref07_name [str s, i64 (i : Int)] w R := by
  apply t_ref07_name
  unfold d_ref07_name
  have hsl : s.length ≤ 70368744177664 := hs
  refine jn1 (fun _ w' => isAt letterB s i = true ∧ Sat g w' H) ?_ ?_
  rotate_left
  · intro k1 hk1
    try simp only [↓E1, ↓E2, ↓E3]
    rw [cnd_dec]
    constructor
    · intro hge
      have hc : isAt letterB s i = false := by
        unfold isAt
        rw [List.getElem?_eq_none (by omega)]
        rfl
      unfold nameS at hR
      rw [hc] at hR
      exact hR w hS
    · intro hlt
      have hlt : i < s.length := by omega
      obtain ⟨c, hc⟩ : ∃ c, s[i]? = some c := ⟨_, List.getElem?_eq_getElem hlt⟩
      refine ⟨by omega, c, by simpa using hc, ?_⟩
      try simp only [↓E2]
      refine c_letter07 ?_
      have hat : isAt letterB s i = letterB c := by unfold isAt; rw [hc]; rfl
      try simp only [↓E1, ↓E2, ↓E3]
      cases hl : letterB c
      · try simp only [↓E3, Bool.not_false]
        unfold nameS at hR
        rw [hat, hl] at hR
        exact hR w hS
      · try simp only [↓E3, Bool.not_true]
        exact hk1 _ _ ⟨by rw [hat, hl], hS⟩
  rintro x w1 ⟨hat, h1⟩
  have hn : (nameS s i).2 = skipS idB s i := by unfold nameS; rw [hat]; rfl
  rw [hn] at hR
  refine lp1 (fun q x w' => ∃ j, x = i64 ((j : Nat) : Int) ∧ q = s.length - j ∧ j ≤ s.length ∧ skipS idB s j = skipS idB s i ∧ Sat g w' H) (s.length - i) ⟨i, rfl, rfl, hi, rfl, h1⟩ ?_
  rintro q x w2 ⟨j, rfl, rfl, hj, he, h2⟩
  try simp only [↓E1, ↓E2, ↓E3]
  rw [cnd_dec]
  constructor
  · intro hlt
    have hlt : j < s.length := by omega
    obtain ⟨c, hc⟩ : ∃ c, s[j]? = some c := ⟨_, List.getElem?_eq_getElem hlt⟩
    have hatj : isAt idB s j = idB c := by unfold isAt; rw [hc]; rfl
    have next : idB c = true → ∃ m', m' < s.length - j ∧ ∃ y, [Value.int IntKind.i64 (IntKind.i64.wrap ((j : Int) + 1))] = [y] ∧ ∃ j, y = i64 ((j : Nat) : Int) ∧ m' = s.length - j ∧ j ≤ s.length ∧ skipS idB s j = skipS idB s i ∧ Sat g w2 H := by
      intro hid
      obtain ⟨hy, _⟩ := skip_yes (p := idB) (s := s) (i := j) (by rw [hatj, hid])
      rw [wrap64_succ (by omega)]
      exact ⟨s.length - (j + 1), by omega, _, rfl, j + 1, rfl, rfl, by omega, by rw [← hy, he], h2⟩
    refine ⟨by omega, c, by simpa using hc, ?_⟩
    try simp only [↓E2]
    refine c_letter07 ?_
    try simp only [↓E1, ↓E2, ↓E3]
    cases hl : letterB c
    · try simp only [↓E1, ↓E2, ↓E3]
      refine ⟨by omega, c, by simpa using hc, ?_⟩
      try simp only [↓E2]
      refine c_digit07 ?_
      try simp only [↓E1, ↓E2, ↓E3]
      cases hd : digitB c
      · try simp only [↓E1, ↓E2, ↓E3]
        refine ⟨by omega, c, by simpa using hc, ?_⟩
        try simp only [↓E1, ↓E2, ↓E3]
        have e : (95 : Int) = ((95 : UInt8).toNat : Int) := rfl
        try simp only [↓E1]
        rw [e, byt_eq]
        cases h95 : c == 95
        · try simp only [↓E3]
          have hid : idB c = false := by simp [idB, hl, hd, h95]
          have := skip_no (p := idB) (s := s) (i := j) (by rw [hatj, hid])
          rw [← he, this] at hR
          exact hR w2 h2
        · try simp only [↓E1, ↓E3]
          exact next (by simp [idB, h95])
      · try simp only [↓E1, ↓E3]
        exact next (by simp [idB, hd])
    · try simp only [↓E1, ↓E3]
      exact next (by simp [idB, hl])
  · intro hge
    have hjl : j = s.length := by omega
    subst hjl
    have : skipS idB s s.length = s.length := by unfold skipS; rw [List.drop_length]; rfl
    rw [← he, this] at hR
    exact hR w2 h2

theorem c_plain07 {t : List UInt8} (ht : Short t) (hS : Sat g w H) (hR : ∀ w', Sat g w' H → R (.returned (.bool (plainB t))) w') : Tr P F.ref07_PlainName [str t] w R := by
  apply t_ref07_PlainName
  unfold d_ref07_PlainName
  try simp only [↓E1, ↓E2, ↓E3]
  rw [cnd_dec]
  constructor
  · intro h0
    refine c_name07 (i := 0) ht (Nat.zero_le _) hS fun w1 h1 => ?_
    try simp only [↓E1, ↓E2, ↓E3]
    rw [dec_beq]
    have := hR w1 h1
    unfold plainB at this
    cases hn : (nameS t 0).1
    · -- there is none: it is of no length
      rw [hn] at this
      have h2 : (nameS t 0).2 = 0 := by
        unfold nameS at hn ⊢
        cases hc : isAt letterB t 0
        · rfl
        · rw [hc] at hn; simp at hn
      rw [h2]
      have h3 : Nat.beq 0 t.length = false := by
        cases hb : Nat.beq 0 t.length with
        | false => rfl
        | true => have := Nat.eq_of_beq_eq_true hb; omega
      rw [h3]
      exact this
    · rw [hn, Bool.true_and] at this
      exact this
  · intro h0
    have : t = [] := List.eq_nil_of_length_eq_zero (by omega)
    subst this
    exact hR w hS

theorem c_Args08 {t : List UInt8} (ht : Short t) (hS : Sat g w H) (hR : ∀ w', Sat g w' H → R (.returned (i64 (argsS t : Int))) w') : Tr P F.ref08_Args [str t] w R := by
  apply t_ref08_Args
  unfold d_ref08_Args
  have htl : t.length ≤ 70368744177664 := ht
  unfold argsS at hR
  try simp only [↓E2]
  refine c_plain07 ht hS fun w1 h1 => ?_
  try simp only [↓E3]
  cases hp : plainB t
  · rw [hp, cond_false] at hR
    try simp only [↓E3]
    refine jn1 (fun x w' => x = .bool (t.isEmpty || plainB (t.take 1)) ∧ Sat g w' H) ?_ ?_
    · rintro x w2 ⟨rfl, h2⟩
      cases hb : (t.isEmpty || plainB (t.take 1))
      · rw [hb] at hR
        try simp only [↓E3]
        exact hR w2 h2
      · rw [hb, cond_true] at hR
        try simp only [↓E3]
        refine lp2 (fun q x y w' => ∃ j, x = i64 ((cnt58 (t.take j) : Nat) : Int) ∧ y = i64 ((j : Nat) : Int) ∧ q = t.length - j ∧ j ≤ t.length ∧ Sat g w' H) t.length ⟨0, rfl, rfl, rfl, by omega, h2⟩ ?_
        rintro q x y w3 ⟨j, rfl, rfl, rfl, hj, h3⟩
        have hcl := cnt_le (t.take j)
        rw [List.length_take] at hcl
        try simp only [↓E1, ↓E2, ↓E3]
        rw [cnd_dec]
        constructor
        · intro hlt
          have hlt : j < t.length := by omega
          obtain ⟨c, hc⟩ : ∃ c, t[j]? = some c := ⟨_, List.getElem?_eq_getElem hlt⟩
          refine ⟨by omega, c, by simpa using hc, ?_⟩
          have hnx : cnt58 (t.take (j + 1)) = cnt58 (t.take j) + (bif c == 58 then 1 else 0) := by
            rw [List.take_add_one, hc, cnt_app]
            simp [cnt58]
          have e : (58 : Int) = ((58 : UInt8).toNat : Int) := rfl
          try simp only [↓E1]
          rw [e, byt_eq]
          cases hb2 : (c == 58)
          · rw [hb2, cond_false] at hnx
            try simp only [↓E1, ↓E2, ↓E3]
            rw [wrap64_succ (by omega)]
            exact ⟨t.length - (j + 1), by omega, _, _, rfl, j + 1, by rw [hnx, Nat.add_zero], rfl, rfl, by omega, h3⟩
          · rw [hb2, cond_true] at hnx
            try simp only [↓E1, ↓E2, ↓E3]
            rw [wrap64_succ (by omega), wrap64_succ (by omega)]
            exact ⟨t.length - (j + 1), by omega, _, _, rfl, j + 1, by rw [hnx], rfl, rfl, by omega, h3⟩
        · intro hge
          have hjl : j = t.length := by omega
          subst hjl
          rw [List.take_length]
          exact hR w3 h3
    · intro k1 hk1
      try simp only [↓E1, ↓E2, ↓E3]
      cases t with
      | nil =>
        simp only [List.length_nil]
        rw [show decide (((0 : Nat) : Int) = 0) = true from rfl]
        try simp only [↓E3]
        exact hk1 _ _ ⟨rfl, h1⟩
      | cons c r =>
        rw [decide_eq_false (by simp only [List.length_cons]; omega)]
        try simp only [↓E1, ↓E2, ↓E3]
        rw [sl_hi]
        refine ⟨by decide, by simp only [List.length_cons]; omega, ?_⟩
        refine c_plain07 (t := [c]) (by simp [Short]) h1 fun w5 h5 => ?_
        try simp only [↓E3]
        exact hk1 _ _ ⟨rfl, h5⟩
  · rw [hp, cond_true] at hR
    try simp only [↓E3]
    exact hR w1 h1

/-- What a step takes, as the reference has it. -/
theorem jnE2 (k : Value → Value → World → Prop) (b : Fn 2 → Prop) : jn 2 k b = b k := rfl
theorem c_takes {i : Ins} {n n' : Nat} (h : stepS n i = some n') (hn : n ≤ 1073741824) (hS : Sat g w H)
    (hR : ∀ (nd : Nat) (more : Int) w', nd ≤ n → (n : Int) + more = n' → more ≤ 1 → Sat g w' H → R (.returned (.tuple #[i64 (nd : Int), i64 more])) w') : Tr P F.ref10_takes [.agg (insC i).toArray] w R := by
  apply t_ref10_takes
  unfold d_ref10_takes
  have e : (Value.agg (insC i).toArray).cells.toList = insC i := by simp [Value.cells]
  rw [e]
  obtain ⟨nd, cm, hef, hnd, hcm, hcm2, hle2, h89⟩ := step_eff h
  have hle := eff_le hef
  obtain ⟨op, a, b⟩ := i
  simp only [] at hle
  refine hS.al fun b1 w1 h1 => ?_
  simp only [↓E1, Nat.reduceAdd]
  rw [h1.ld0 0 _ (by simp [insC])]
  have k0 : (insC ⟨op, a, b⟩).getD 0 undef = i64 (op : Int) := rfl
  have k2 : (insC ⟨op, a, b⟩).getD 2 undef = i64 (b : Int) := rfl
  have kl : (insC ⟨op, a, b⟩).length = 3 := rfl
  rw [k0]
  generalize insC ⟨op, a, b⟩ = ic at h1 k0 k2 kl
  have fin : ∀ x y : Nat, effS ⟨op, a, b⟩ = some (x, y) → R (.returned (.tuple #[i64 (x : Int), i64 ((y : Int) - (x : Int))])) w1 := by
    intro x y hxy
    rw [hef] at hxy
    injection hxy with hxy
    injection hxy with h2 h3
    subst h2 h3
    exact hR nd _ w1 hnd (by omega) (by omega) h1.tail
  have hop : op = 0 ∨ op = 1 ∨ op = 2 ∨ op = 3 ∨ op = 4 ∨ op = 5 ∨ op = 6 ∨ op = 7 ∨ op = 8 ∨ op = 9 ∨ op = 10 ∨ op = 11 ∨ op = 12 ∨ op = 13 ∨ op = 14 := by omega
  have sends : op = 8 ∨ op = 9 → nd = b ∧ cm = 0 := by
    intro h
    rcases h with rfl | rfl
    · have : effS ⟨8, a, b⟩ = some (b, 0) := rfl
      rw [this] at hef
      injection hef with hef
      injection hef with h2 h3
      exact ⟨h2.symm, h3.symm⟩
    · have : effS ⟨9, a, b⟩ = some (b, 0) := rfl
      rw [this] at hef
      injection hef with hef
      injection hef with h2 h3
      exact ⟨h2.symm, h3.symm⟩
  rcases hop with rfl | rfl | rfl | rfl | rfl | rfl | rfl | rfl | rfl | rfl | rfl | rfl | rfl | rfl | rfl
  all_goals simp only [↓E1, ↓E2, ↓E3, ↓jnE1, ↓jnE2, ↓C1, decF, decT, Int.reduceEq, Int.cast_ofNat_Int, true_implies, false_implies, not_true_eq_false, not_false_eq_true, and_true, true_and, Nat.reduceAdd]
  all_goals try first | exact fin 0 1 rfl | exact fin 1 1 rfl | exact fin 1 2 rfl | exact fin 1 0 rfl
  all_goals
    obtain ⟨rfl, rfl⟩ := sends (by simp)
    have hlt := h89 (by simp)
    rw [h1.ld0 2 _ (by omega), k2]
    simp only [↓E1]
    rw [decide_eq_false (by omega)]
    simp only [↓E3]
    rw [h1.ld0 2 _ (by omega), k2]
    simp only [↓E1]
    rw [decide_eq_false (by omega)]
    simp only [↓E3]
    have h2 := h1.drew
    rw [h2.ld0 2 _ (by omega), k2]
    simp only [↓E1]
    rw [h2.ld0 2 _ (by omega), k2]
    simp only [↓E2]
    rw [wrap64_succ (by omega), wrap64_of (by omega) (by omega)]
    exact hR (nd + 1) _ _ (by omega) (by omega) (by omega) h2.tail
end Go.Vx
namespace Go.Vx
open Go Go.Proofs
variable {R : Ending → World → Prop} {g : G} {w : World} {H hp T : Hp}

theorem lp5 {a b c d e : Value} {body : (List Value → World → Prop) → Fn 5} (I : Nat → Value → Value → Value → Value → Value → World → Prop) (m : Nat) (h0 : I m a b c d e w) (hs : ∀ m a b c d e w, I m a b c d e w → body (fun vs w' => ∃ m', m' < m ∧ ∃ a b c d e, vs = [a, b, c, d, e] ∧ I m' a b c d e w') a b c d e w) : lp 5 [a, b, c, d, e] body w := by
  refine ⟨fun m vs w => ∃ a b c d e, vs = [a, b, c, d, e] ∧ I m a b c d e w, ⟨m, a, b, c, d, e, rfl, h0⟩, fun m a b c d e w h => ?_⟩
  obtain ⟨a', b', c', d', e', he, h⟩ := h
  injection he with h1 h2; injection h2 with h2 h3; injection h3 with h3 h4; injection h4 with h4 h5; injection h5 with h5; subst h1 h2 h3 h4 h5
  exact hs m a b c d e w h

theorem c_gone {x : CU} {v : Value} (hv : Sl g 3 v x.ins.length (insZ x.ins)) (hl : x.ins.length ≤ 1073741824) (hgo : hgt x.ins 0 = some 0) (hS : Sat g w H)
    (hR : ∀ (q : Nat) w', q ≤ 1073741824 → Sat g w' H → R (.returned (.tuple #[i64 (q : Int), i64 0])) w') : Tr P F.ref10_gone [.agg (uC x v).toArray] w R := by
  apply t_ref10_gone
  unfold d_ref10_gone
  have e : (Value.agg (uC x v).toArray).cells.toList = uC x v := by simp [Value.cells]
  rw [e]
  obtain ⟨av, cv, rfl, _, _, _⟩ := id hv
  refine hS.al fun b1 w1 h1 => ?_
  refine lp5 (fun q a b c d e w' => ∃ j mx hh : Nat, c = i64 (mx : Int) ∧ d = i64 (hh : Int) ∧ e = i64 (j : Int) ∧ q = x.ins.length - j ∧ j ≤ x.ins.length ∧ mx ≤ j ∧ hh ≤ j ∧ hgt (x.ins.take j) 0 = some hh ∧ Sat g w' ((b1, .cells (uC x (.slice av x.ins.length cv)).toArray 37) :: H)) x.ins.length
    ⟨0, 0, 0, rfl, rfl, rfl, rfl, by omega, by omega, by omega, rfl, h1⟩ ?_
  rintro q x2 x3 x4 x5 x6 w2 ⟨j, mx, hh, rfl, rfl, rfl, rfl, hj, hmx, hhh, hg, h2⟩
  try simp only [↓E1, ↓E2, ↓E3, Nat.reduceAdd]
  rw [h2.ld0 2 _ (by simp)]
  try simp only [↓E1, ↓E2, ↓E3, Nat.reduceAdd]
  rw [cnd_dec]
  constructor
  · intro hlt
    have hlt : j < x.ins.length := by omega
    obtain ⟨i, hi⟩ : ∃ i, x.ins[j]? = some i := ⟨_, List.getElem?_eq_getElem hlt⟩
    obtain ⟨q1, q2, hq1, hq2, hq3, hq4⟩ := hgt_take hgo hi
    rw [hg] at hq1
    injection hq1 with hq1
    subst hq1
    obtain ⟨_, _, _, _, _, _, hle2, _⟩ := step_eff hq2
    try simp only [↓E1, ↓E2, ↓E3, Nat.reduceAdd]
    rw [h2.ld0 2 _ (by simp)]
    try simp only [↓E1, ↓E2, ↓E3, Nat.reduceAdd]
    refine insAt hv hi h2 fun bi oi hci => ?_
    refine h2.ldnI (vs := insC i) hci ?_
    try simp only [↓E2]
    refine c_takes hq2 (by omega) h2 fun nd more w3 hnd hmore hm1 h3 => ?_
    have et : (Value.tuple #[i64 (nd : Int), i64 more]) = .tuple [i64 (nd : Int), i64 more].toArray := rfl
    rw [et]
    try simp only [↓E1, ↓E2, ↓E3]
    rw [decide_eq_false (by omega), wrap64_of (by omega) (by omega)]
    try simp only [↓E1, ↓E2, ↓E3]
    have e1 : (hh : Int) + more = ((q2 : Nat) : Int) := hmore
    rw [e1, wrap64_succ (by omega), cnd_dec]
    constructor
    · intro hgt
      exact ⟨x.ins.length - (j + 1), by omega, _, _, _, _, _, rfl, j + 1, q2, q2, rfl, rfl, rfl, rfl, by omega, by omega, by omega, hq3, h3⟩
    · intro hng
      exact ⟨x.ins.length - (j + 1), by omega, _, _, _, _, _, rfl, j + 1, mx, q2, rfl, rfl, rfl, rfl, by omega, by omega, by omega, hq3, h3⟩
  · intro hge
    have hjl : j = x.ins.length := by omega
    subst hjl
    rw [List.take_length, hgo] at hg
    injection hg with hg
    subst hg
    exact hR mx w2 (by omega) h2.tail

theorem c_in {a n : Nat} (h : a < n) (hR : R (.returned (.bool true)) w) : Tr P F.ref10_in [i64 (a : Int), i64 (n : Int)] w R := by
  apply t_ref10_in
  unfold d_ref10_in
  simp only [↓E1]
  rw [decide_eq_true (by omega), decide_eq_true (by omega)]
  simp only [↓E3]
  exact hR

theorem c_right {cv : List Value} {sel : List UInt8} {m : MK} (hC : CodeR g cv sel m) {sl : Nat} {i : Ins} (hn : NamB m sl i) (hop : i.op ≤ 14) (hS : Sat g w H)
    (hR : ∀ w', Sat g w' H → R (.returned (.bool true)) w') : Tr P F.ref10_right [.agg cv.toArray, .agg (insC i).toArray, i64 (sl : Int)] w R := by
  apply t_ref10_right
  unfold d_ref10_right
  obtain ⟨vU, cU, vL, vN, vS, rfl, hI, hU, hL, hN, hSe⟩ := hC
  have e : (Value.agg [str sel, vU, vL, vN, vS].toArray).cells.toList = [str sel, vU, vL, vN, vS] := by simp [Value.cells]
  have e2 : (Value.agg (insC i).toArray).cells.toList = insC i := by simp [Value.cells]
  rw [e, e2]
  obtain ⟨op, a, b⟩ := i
  simp only [] at hop
  refine hS.al fun b3 w1 h1 => h1.al fun b4 w2 h2 => ?_
  have k0 : (insC ⟨op, a, b⟩).getD 0 undef = i64 (op : Int) := rfl
  have k1 : (insC ⟨op, a, b⟩).getD 1 undef = i64 (a : Int) := rfl
  have k2 : (insC ⟨op, a, b⟩).getD 2 undef = i64 (b : Int) := rfl
  have kl : (insC ⟨op, a, b⟩).length = 3 := rfl
  have kb : (insC ⟨op, a, b⟩)[2]? = some (i64 (b : Int)) := rfl
  generalize insC ⟨op, a, b⟩ = ic at h2 k0 k1 k2 kl kb
  obtain ⟨aL, cL, rfl, _, _, _⟩ := id hL
  obtain ⟨aN, cN, rfl, _, _, _⟩ := id hN
  obtain ⟨aS, cS, rfl, _, _, _⟩ := id hSe
  obtain ⟨aU, cpU, rfl, _, _, _⟩ := id hU
  have fin : ∀ w', Sat g w' ((b4, .cells ic.toArray 39) :: (b3, .cells [str sel, .slice aU m.units.length cpU, .slice aL m.lits.length cL, .slice aN m.names.length cN, .slice aS m.sels.length cS].toArray 32) :: H) → R (.returned (.bool true)) w' := fun w' h => hR w' h.tail.tail
  refine jnI ?_
  try simp only [↓E1, Nat.reduceAdd]
  rw [h2.ld0 1 _ (by omega), k1]
  try simp only [↓E1]
  rw [decide_eq_false (by omega)]
  try simp only [↓E1, ↓E3, Nat.reduceAdd]
  rw [h2.ld0 2 _ (by omega), k2]
  try simp only [↓E1]
  rw [decide_eq_false (by omega)]
  try simp only [↓E1, ↓E3, Nat.reduceAdd]
  rw [h2.ld0 0 _ (by omega), k0]
  have hcases : op = 0 ∨ op = 1 ∨ op = 2 ∨ op = 3 ∨ op = 4 ∨ op = 5 ∨ op = 6 ∨ op = 7 ∨ op = 8 ∨ op = 9 ∨ op = 10 ∨ op = 11 ∨ op = 12 ∨ op = 13 ∨ op = 14 := by omega
  have h3 := h2.drew
  have sends : op = 8 ∨ op = 9 → ld (ptr b4 1) (fun t49 w => ld (ptr b3 4) (fun t51 w => lnL t51 (fun t52 w => cl P F.ref10_in [t49, t52] (fun t53 w =>
      cnd t53 (fa 2 (ptr b4 0) (fun t55 w => ld t55 (fun t56 w => fa 4 (ptr b3 0) (fun t57 w => ld t57 (fun t58 w => fa 1 (ptr b4 0) (fun t59 w => ld t59 (fun t60 w => ia 1 t58 t60 (fun t61 w => ld t61 (fun t62 w =>
        cl P F.ref08_Args [t62] (fun t63 w => rk false t55 t56 (bI .eql .i64 t56 t63 (fun t64 w => R (.returned t64) w) w) w) (fun ch w => R (.panicked ch) w) w) w) w) w) w) w) w) w) w) (R (.returned (.bool false)) w)) (fun ch w => R (.panicked ch) w) w) w) w) w2.drew := by
    intro h89
    obtain ⟨t, ht, ⟨⟨hargs, hasc⟩, hlen⟩⟩ := hn.sel h89
    simp only [] at ht hargs
    have hlt := (List.getElem?_eq_some_iff.1 ht).1
    rw [h3.ld0 1 _ (by omega), k1, h3.ld1 4 _ (by simp)]
    try simp only [↓E1, ↓E2, ↓E3, Nat.reduceAdd]
    refine c_in hlt ?_
    try simp only [↓E1, ↓E2, ↓E3, Nat.reduceAdd]
    rw [h3.ld0 2 _ (by omega), k2]
    try simp only [↓E1, Nat.reduceAdd]
    rw [h3.ld1 4 _ (by simp)]
    try simp only [↓E1, ↓E3, Nat.reduceAdd]
    rw [h3.ld0 1 _ (by omega), k1]
    refine SS.cell hSe h3 ht fun bt ot hbt => ?_
    rw [h3.ldI hbt]
    try simp only [↓E2]
    refine c_Args08 (by unfold Short; omega) h3 fun w4 h4 => ?_
    try simp only [↓E3]
    refine h4.rk (b := b4) (t := 39) (fr := (0, 0)) (c := ic) (by simp) kb ?_
    try simp only [↓E1]
    rw [decide_eq_true (by rw [hargs])]
    exact fin w4 h4
  rcases hcases with rfl | rfl | rfl | rfl | rfl | rfl | rfl | rfl | rfl | rfl | rfl | rfl | rfl | rfl | rfl
  all_goals simp only [↓E1, ↓E2, ↓E3, ↓jnE1, ↓C1, decF, decT, Int.reduceEq, Int.cast_ofNat_Int, true_implies, false_implies, not_true_eq_false, not_false_eq_true, and_true, true_and, Nat.reduceAdd]
  all_goals try exact fin _ h2
  · have := hn.lit rfl
    simp only [] at this
    rw [h2.ld0 1 _ (by omega), k1, h2.ld1 2 _ (by simp)]
    try simp only [↓E1, ↓E2, ↓E3]
    refine c_in this ?_
    try simp only [↓E3]
    exact fin _ h2
  · have := hn.slot (.inl rfl)
    simp only [] at this
    rw [h2.ld0 1 _ (by omega), k1]
    refine c_in this ?_
    try simp only [↓E3]
    exact fin _ h2
  · have := hn.slot (.inr rfl)
    simp only [] at this
    rw [h2.ld0 1 _ (by omega), k1]
    refine c_in this ?_
    try simp only [↓E3]
    exact fin _ h2
  · have := hn.glob rfl
    simp only [] at this
    rw [h2.ld0 1 _ (by omega), k1, h2.ld1 3 _ (by simp)]
    try simp only [↓E1, ↓E2, ↓E3]
    refine c_in this ?_
    try simp only [↓E3]
    exact fin _ h2
  · have := hn.con rfl
    simp only [] at this
    rw [h2.ld0 1 _ (by omega), k1]
    refine c_in (n := 3) this ?_
    try simp only [↓E3]
    exact fin _ h2
  · have := sends (.inl rfl)
    try simp only [↓E1, ↓E2, ↓E3, Nat.reduceAdd] at this
    exact this
  · have := sends (.inr rfl)
    try simp only [↓E1, ↓E2, ↓E3, Nat.reduceAdd] at this
    exact this
  · have := hn.blk rfl
    simp only [] at this
    rw [h2.ld0 1 _ (by omega), k1, h2.ld1 1 _ (by simp)]
    try simp only [↓E1, ↓E2, ↓E3]
    refine c_in this ?_
    try simp only [↓E3]
    exact fin _ h2
end Go.Vx
namespace Go.Vx
open Go Go.Proofs
variable {R : Ending → World → Prop} {g : G} {w : World} {H hp T : Hp}

theorem jn17 {k : Fn 17} {b : Fn 17 → Prop} (J : Value → World → Prop) (h1 : ∀ x a1 a2 a3 a4 a5 a6 a7 a8 a9 a10 a11 a12 a13 a14 a15 a16 w, J x w → k x a1 a2 a3 a4 a5 a6 a7 a8 a9 a10 a11 a12 a13 a14 a15 a16 w)
    (h2 : ∀ k : Value → Value → Value → Value → Value → Value → Value → Value → Value → Value → Value → Value → Value → Value → Value → Value → Value → World → Prop, (∀ x a1 a2 a3 a4 a5 a6 a7 a8 a9 a10 a11 a12 a13 a14 a15 a16 w, J x w → k x a1 a2 a3 a4 a5 a6 a7 a8 a9 a10 a11 a12 a13 a14 a15 a16 w) → b k) : jn 17 k b := h2 k h1
theorem jn8 {k : Fn 8} {b : Fn 8 → Prop} (J : Value → World → Prop) (h1 : ∀ x a1 a2 a3 a4 a5 a6 a7 w, J x w → k x a1 a2 a3 a4 a5 a6 a7 w)
    (h2 : ∀ k : Value → Value → Value → Value → Value → Value → Value → Value → World → Prop, (∀ x a1 a2 a3 a4 a5 a6 a7 w, J x w → k x a1 a2 a3 a4 a5 a6 a7 w) → b k) : jn 8 k b := h2 k h1

theorem c_RCheck {cv : List Value} {sel : List UInt8} {m : MK} (hC : CodeR g cv sel m) (hm : tot m ≤ 1073741824) {sl : Nat} (hG : ∀ x ∈ m.units, GoodU m sl x) (h0 : 0 < m.units.length) (hS : Sat g w H)
    (hR : ∀ w', Sat g w' H → R (.returned (i64 0)) w') : Tr P F.ref10_Check [.agg cv.toArray, i64 (sl : Int)] w R := by
  apply t_ref10_Check
  unfold d_ref10_Check
  have e : (Value.agg cv.toArray).cells.toList = cv := by simp [Value.cells]
  rw [e]
  have hC0 := hC
  have hcl := hC.len.1
  unfold tot at hm
  obtain ⟨vU, cU, vL, vN, vS, hcv, hI, hU, hL, hN, hSe⟩ := hC
  obtain ⟨aU, cpU, rfl, _, _, _⟩ := id hU
  have g1 : cv.getD 1 undef = .slice aU m.units.length cpU := by rw [hcv]; rfl
  refine hS.al fun b2 w1 h1 => ?_
  try simp only [↓E1, ↓E2, ↓E3, Nat.reduceAdd]
  rw [h1.ld0 1 _ (by omega), g1]
  try simp only [↓E1, ↓E2, ↓E3, Nat.reduceAdd]
  rw [decide_eq_true (by omega)]
  refine lp2 (fun q a b w' => a = .bool true ∧ ∃ j, b = i64 ((j : Nat) : Int) ∧ q = m.units.length - j ∧ j ≤ m.units.length ∧ Sat g w' ((b2, .cells cv.toArray 32) :: H)) m.units.length ⟨rfl, 0, rfl, rfl, by omega, h1⟩ ?_
  rintro q a b w2 ⟨rfl, j, rfl, rfl, hj, h2⟩
  clear h1
  try simp only [↓E1, ↓E2, ↓E3, Nat.reduceAdd]
  rw [h2.ld0 1 _ (by omega), g1]
  try simp only [↓E1, ↓E2, ↓E3, Nat.reduceAdd]
  rw [cnd_dec]
  constructor
  · intro hlt
    have hlt : j < m.units.length := by omega
    obtain ⟨x, hx⟩ : ∃ x, m.units[j]? = some x := ⟨_, List.getElem?_eq_getElem hlt⟩
    have hxl := insT_at hx
    have hGx := hG x (List.mem_of_getElem? hx)
    have hne : x.ins.length ≠ 0 := by
      obtain ⟨l, i, he, _⟩ := hGx.last
      rw [he]
      simp
    have ha := hGx.args
    try simp only [↓E1, ↓E2, ↓E3, Nat.reduceAdd]
    rw [h2.ld0 1 _ (by omega), g1]
    try simp only [↓E1, ↓E2, ↓E3, Nat.reduceAdd]
    refine hI.at hU hx h2 fun b o v hc0 hc1 hc2 hv => ?_
    refine h2.ldnI (vs := uC x v) (fun j y hy => by
      match j, hy with
      | 0, hy => simp at hy; subst hy; exact hc0
      | 1, hy => simp at hy; subst hy; exact hc1
      | 2, hy => simp at hy; subst hy; exact hc2
      | j + 3, hy => simp at hy) ?_
    refine h2.al fun b7 w3 h3 => ?_
    refine st_all (c := uC x v) (c2 := [.int .i64 0, .int .i64 0, .slice none 0 0]) h3 rfl rfl (by simp only [allOne, hv.one]; rfl) fun w4 h4 => ?_
    clear h3
    refine h4.ldn0 (c := uC x v) rfl ?_
    try simp only [↓E2]
    refine c_gone hv (by omega) hGx.run h4 fun mx w5 hmx h5 => ?_
    clear h4
    have et : (Value.tuple #[i64 (mx : Int), i64 0]) = .tuple [i64 (mx : Int), i64 0].toArray := rfl
    rw [et]
    try simp only [↓E2, ↓E3]
    obtain ⟨av, cpv, rfl, _, _, _⟩ := id hv
    obtain ⟨uc, huc⟩ : ∃ uc, uc = uC x (.slice av x.ins.length cpv) := ⟨_, rfl⟩
    rw [← huc] at h5
    have u0 : uc.getD 0 undef = i64 (x.args : Int) := by rw [huc]; rfl
    have u1 : uc.getD 1 undef = i64 (x.names : Int) := by rw [huc]; rfl
    have u2 : uc.getD 2 undef = .slice av x.ins.length cpv := by rw [huc]; rfl
    have ul : uc.length = 3 := by rw [huc]; rfl
    clear huc
    refine jn17 (fun y w' => y = .bool true ∧ Sat g w' ((b7, .cells uc.toArray 37) :: (b2, .cells cv.toArray 32) :: H)) ?_ ?_
    rotate_left
    · intro k2 hk2
      try simp only [↓E1, ↓E2, ↓E3, Nat.reduceAdd]
      rw [decide_eq_true (by omega)]
      try simp only [decide_true, ↓E1, ↓E2, ↓E3, Nat.reduceAdd]
      rw [h5.ld0 2 _ (by omega), u2]
      try simp only [↓E1, ↓E2, ↓E3, Nat.reduceAdd]
      rw [decide_eq_true (by omega)]
      try simp only [↓E1, ↓E2, ↓E3, Nat.reduceAdd]
      rw [h5.ld0 0 _ (by omega), u0]
      try simp only [↓E1, ↓E2, ↓E3, Nat.reduceAdd]
      rw [decide_eq_true (by omega)]
      try simp only [↓E1, ↓E2, ↓E3, Nat.reduceAdd]
      rw [h5.ld0 0 _ (by omega), u0]
      try simp only [↓E1, ↓E2, ↓E3, Nat.reduceAdd]
      rw [h5.ld0 1 _ (by omega), u1]
      try simp only [↓E1, ↓E2, ↓E3, Nat.reduceAdd]
      rw [decide_eq_true (by omega)]
      exact hk2 _ _ _ _ _ _ _ _ _ _ _ _ _ _ _ _ _ _ ⟨rfl, h5⟩
    rintro y a1 a2 a3 a4 a5 a6 a7 a8 a9 a10 a11 a12 a13 a14 a15 a16 w6 ⟨rfl, h6⟩
    clear h5
    refine lp2 (fun q a b w' => a = .bool true ∧ ∃ k, b = i64 ((k : Nat) : Int) ∧ q = x.ins.length - k ∧ k ≤ x.ins.length ∧ Sat g w' ((b7, .cells uc.toArray 37) :: (b2, .cells cv.toArray 32) :: H)) x.ins.length ⟨rfl, 0, rfl, rfl, by omega, h6⟩ ?_
    rintro q a b w7 ⟨rfl, k, rfl, rfl, hk, h7⟩
    clear h6
    try simp only [↓E1, ↓E2, ↓E3, Nat.reduceAdd]
    rw [h7.ld0 2 _ (by omega), u2]
    try simp only [↓E1, ↓E2, ↓E3, Nat.reduceAdd]
    rw [cnd_dec]
    constructor
    · intro hlk
      have hlk : k < x.ins.length := by omega
      obtain ⟨i, hi⟩ : ∃ i, x.ins[k]? = some i := ⟨_, List.getElem?_eq_getElem hlk⟩
      have hlast := last_at hGx hi
      refine jn8 (fun y w' => y = .bool (Nat.beq i.op 13 || Nat.beq i.op 14) ∧ Sat g w' ((b7, .cells uc.toArray 37) :: (b2, .cells cv.toArray 32) :: H)) ?_ ?_
      · rintro y c1 c2 c3 c4 c5 c6 c7 w8 ⟨rfl, h8'⟩
        have h8 := h8'.drew
        try simp only [↓E1, ↓E2, ↓E3, Nat.reduceAdd]
        rw [h8.ld0 2 _ (by omega), u2]
        try simp only [↓E1, ↓E2, ↓E3, Nat.reduceAdd]
        rw [wrap64_of (by omega) (by omega)]
        have ed : decide ((k : Int) = (x.ins.length : Int) - 1) = Nat.beq k (x.ins.length - 1) := by
          rw [← dec_beq]
          congr 1
          apply propext
          omega
        rw [ed, bB_eql, hlast, beq_self_eq_true]
        try simp only [↓E3]
        refine h8.ldnH (b := b2) (c := cv) (t := 32) (fr := (0, 0)) (by simp) 5 0 (by omega) ?_
        rw [List.drop_zero, List.take_of_length_le (by omega)]
        try simp only [↓E1, ↓E2, ↓E3, Nat.reduceAdd]
        rw [h8.ld0 2 _ (by omega), u2]
        try simp only [↓E1, ↓E2, ↓E3, Nat.reduceAdd]
        refine insAt hv hi h8 fun bi oi hci => ?_
        refine h8.ldnI (vs := insC i) hci ?_
        try simp only [↓E2]
        refine c_right hC0 (hGx.nam i (List.mem_of_getElem? hi)) (op_le hGx hi) h8 fun w9 h9 => ?_
        try simp only [↓E1, ↓E2, ↓E3]
        rw [wrap64_succ (by omega)]
        exact ⟨x.ins.length - (k + 1), by omega, _, _, rfl, rfl, k + 1, rfl, rfl, by omega, h9⟩
      · intro k4 hk4
        try simp only [↓E1, ↓E2, ↓E3, Nat.reduceAdd]
        rw [h7.ld0 2 _ (by omega), u2]
        try simp only [↓E1, ↓E2, ↓E3, Nat.reduceAdd]
        refine insAt hv hi h7 fun bi oi hci => ?_
        try simp only [↓E1, ↓E2, ↓E3, Nat.reduceAdd]
        rw [h7.ldI (hci 0 (i64 (i.op : Int)) rfl)]
        try simp only [↓E1, ↓E2, ↓E3, Nat.reduceAdd]
        rw [show decide ((i.op : Int) = 13) = Nat.beq i.op 13 from dec_beq _ _]
        cases h13 : Nat.beq i.op 13
        · try simp only [↓E1, ↓E2, ↓E3, Nat.reduceAdd]
          rw [h7.ld0 2 _ (by omega), u2]
          try simp only [↓E1, ↓E2, ↓E3, Nat.reduceAdd]
          refine insAt hv hi h7 fun bi oi hci => ?_
          try simp only [↓E1, ↓E2, ↓E3, Nat.reduceAdd]
          rw [h7.ldI (hci 0 (i64 (i.op : Int)) rfl)]
          try simp only [↓E1, ↓E2, ↓E3, Nat.reduceAdd]
          rw [show decide ((i.op : Int) = 14) = Nat.beq i.op 14 from dec_beq _ _]
          exact hk4 _ _ _ _ _ _ _ _ _ ⟨by rw [h13]; rfl, h7⟩
        · try simp only [↓E1, ↓E2, ↓E3, Nat.reduceAdd]
          exact hk4 _ _ _ _ _ _ _ _ _ ⟨by rw [h13]; rfl, h7⟩
    · intro _
      try simp only [↓E1, ↓E2, ↓E3, Nat.reduceAdd]
      rw [wrap64_succ (by omega)]
      exact ⟨m.units.length - (j + 1), by omega, _, _, rfl, rfl, j + 1, rfl, rfl, by omega, h7.tail⟩
  · intro _
    try simp only [↓E1, ↓E2, ↓E3, Bool.not_true]
    exact hR w2 h2.tail

theorem c_CodeGood {s : List UInt8} {meth : Bool} {sv : Value} {slots : List (List UInt8)} (hs : s.length ≤ 9223372036854775807) (hsl : SS g sv slots) (hsn : slots.length ≤ 4611686018427387904) (hS : Sat g w H)
    (hR : ∀ g' w', g.le g' → Sat g' w' H → R (.returned (.bool true)) w') : Tr P F.law10_CodeGood [str s, .bool meth, sv] w R := by
  apply t_law10_CodeGood
  unfold d_law10_CodeGood
  -- what is known of a made code
  obtain ⟨J, hJ⟩ : ∃ J : Nat → Value → World → Prop, J = fun b7 x w' => ∃ g', g.le g' ∧ ((x = i64 0 ∧ ∃ cv sel m, CodeR g' cv sel m ∧ tot m ≤ 1073741824 ∧ 0 < m.units.length ∧ (∀ x ∈ m.units, GoodU m slots.length x) ∧ Sat g' w' ((b7, .cells cv.toArray 25) :: H)) ∨
      (∃ e : Nat, x = i64 (e : Int) ∧ e ≠ 0 ∧ Sat g' w' ((b7, .cells cZ.toArray 25) :: H))) := ⟨_, rfl⟩
  -- what follows
  have rest : ∀ (b7 : Nat) (x : Value) (w' : World), J b7 x w' → bI .neq .i64 x (Value.int IntKind.i64 0) (fun t26 w =>
      cnd t26
      (ldn 5 (ptr b7 0) (fun t27 w => cl P F.law10_taken [t27] (fun t28 w => bd [.string ⟨#[]⟩, .slice none 0 0, .slice none 0 0, .slice none 0 0, .slice none 0 0] [] (fun t29 w => cl P F.ref10_Same [t28, t29] (fun t30 w =>
        cnd t30 (cl P F.law10_known [] (fun t32 w => R (.returned t32) w) (fun ch w => R (.panicked ch) w) w) (R (.returned (.bool false)) w)) (fun ch w => R (.panicked ch) w) w) w) (fun ch w => R (.panicked ch) w) w) w)
      (ldn 5 (ptr b7 0) (fun t34 w => lnL sv (fun t36 w => cl P F.code_Check [t34, t36] (fun t37 w => bI .eql .i64 t37 (Value.int IntKind.i64 0) (fun t38 w => cnd t38
        (ldn 5 (ptr b7 0) (fun t40 w => cl P F.law10_taken [t40] (fun t41 w => lnL sv (fun t43 w => cl P F.ref10_Check [t41, t43] (fun t44 w => bI .eql .i64 t44 (Value.int IntKind.i64 0) (fun t45 w => cnd t45
          (fa 1 (ptr b7 0) (fun t48 w => ld t48 (fun t49 w => lnL t49 (fun t50 w => bI .gtr .i64 t50 (Value.int IntKind.i64 0) (fun t51 w => cnd t51
            (cl P F.law10_known [] (fun t54 w => R (.returned t54) w) (fun ch w => R (.panicked ch) w) w) (R (.returned (.bool false)) w)) w) w) w) w)
          (R (.returned (.bool false)) w)) w) (fun ch w => R (.panicked ch) w) w) w) (fun ch w => R (.panicked ch) w) w) w)
        (R (.returned (.bool false)) w)) w) (fun ch w => R (.panicked ch) w) w) w) w)) w' := by
    intro b7 x w' hj
    rw [hJ] at hj
    obtain ⟨g1, hg1, hj⟩ := hj
    obtain ⟨aS, cS, rfl, _, _, _⟩ := id hsl
    rcases hj with ⟨rfl, cv, sel, m, hC, htot, h0, hG, h1⟩ | ⟨e, rfl, he, h1⟩
    · have hcl := hC.len.1
      simp only [decide_true, Bool.not_true, ↓E1, ↓E3]
      refine h1.ldn0 (c := cv) hcl.symm ?_
      try simp only [↓E1, ↓E2, ↓E3]
      refine c_Check hC htot hG h0 h1 fun w2 h2 => ?_
      try simp only [decide_true, ↓E1, ↓E2, ↓E3]
      refine h2.ldn0 (c := cv) hcl.symm ?_
      try simp only [↓E1, ↓E2, ↓E3]
      refine c_taken hC htot h2 fun g3 cv3 w3 hg3 hC3 h3 => ?_
      try simp only [↓E1, ↓E2, ↓E3]
      refine c_RCheck hC3 htot hG h0 h3 fun w4 h4 => ?_
      try simp only [decide_true, ↓E1, ↓E2, ↓E3, Nat.reduceAdd]
      obtain ⟨vU, cU, vL, vN, vS, rfl, hI, hU, hL, hN, hSe⟩ := hC
      obtain ⟨aU, cpU, rfl, _, _, _⟩ := id hU
      rw [h4.ld0 1 _ (by simp)]
      try simp only [↓E1, ↓E2, ↓E3, Nat.reduceAdd]
      rw [decide_eq_true (by omega)]
      try simp only [↓E1, ↓E2, ↓E3, Nat.reduceAdd]
      refine c_known h4.tail fun g5 w5 hg5 h5 => ?_
      try simp only [↓E3]
      exact hR g5 w5 (hg1.trans (hg3.trans hg5)) h5
    · simp only [↓E1]
      rw [decide_eq_false (by omega)]
      simp only [Bool.not_false, ↓E3]
      refine h1.ldn0 (c := cZ) rfl ?_
      have hz : tot ⟨[], [], [], [], []⟩ ≤ 1073741824 := by decide
      try simp only [↓E2]
      refine c_taken (CodeR.zero g1) hz h1 fun g2 cv2 w2 hg2 hC2 h2 => ?_
      try simp only [↓E3]
      refine bdI (cs := cZ) rfl ?_
      try simp only [↓E2]
      refine c_Same hC2 (CodeR.zero g2) hz h2 fun w3 h3 => ?_
      try simp only [↓E2, ↓E3]
      refine c_known h3.tail fun g5 w5 hg5 h5 => ?_
      try simp only [↓E3]
      exact hR g5 w5 (hg1.trans (hg2.trans hg5)) h5
  have tup : ∀ a b c : Value, Value.tuple #[a, b, c] = .tuple [a, b, c].toArray := fun _ _ _ => rfl
  -- the same, for a method
  have method : ∀ (b7 : Nat) (c2 : List Value) (g1 : G) (w1 : World) (k1 : Value → World → Prop), c2.length = 5 → g.le g1 → Sat g1 w1 ((b7, .cells c2.toArray 25) :: H) → (∀ x w, J b7 x w → k1 x w) →
      cl P F.code_Method [str s, sv] (fun t21 w => ex t21 0 (fun t22 w => ex t21 1 (fun t23 w => ex t21 2 (fun t24 w => st 5 (ptr b7 0) t22 (fun w => k1 t24 w) w) w) w) w) (fun ch w => R (.panicked ch) w) w1 := by
    intro b7 c2 g1 w1 k1 hc2 hg1 h1 hk1
    try simp only [↓E2]
    refine c_Method hs (hsl.mono hg1) hsn h1 (fun sel m g2 cv w2 hc hg2 hcv htot h2 => ?_) (fun p e g2 w2 hc hg2 h2 => ?_)
    · try simp only [↓E2, ↓E3]
      refine st_all (c := cv) (c2 := c2) h2 hcv.len.1 hc2 hcv.len.2 fun w3 h3 => ?_
      obtain ⟨h4, h5⟩ := good_method hc
      exact hk1 _ _ (by rw [hJ]; exact ⟨g2, hg1.trans hg2, .inl ⟨rfl, cv, sel, m, hcv, htot, h4, h5, h3⟩⟩)
    · try simp only [↓E2, ↓E3]
      refine st_all (c := cZ) (c2 := c2) h2 rfl hc2 rfl fun w3 h3 => ?_
      exact hk1 _ _ (by rw [hJ]; exact ⟨g2, hg1.trans hg2, .inr ⟨e, rfl, meth_err hc, h3⟩⟩)
  try simp only [↓E2]
  refine c_Compile hs hsl hsn hS (fun sel m g1 cv w1 hc hg1 hcv htot h1 => ?_) (fun p e g1 w1 hc hg1 h1 => ?_)
  · try simp only [↓E2, ↓E3]
    refine h1.al fun b7 w2 h2 => ?_
    refine st_all (c := cv) (c2 := cZ) h2 hcv.len.1 rfl hcv.len.2 fun w3 h3 => ?_
    refine jn1 (J b7) (rest b7) fun k1 hk1 => ?_
    rw [cnd_eq]
    constructor
    · intro _
      exact method b7 cv g1 w3 k1 hcv.len.1 hg1 h3 hk1
    · intro _
      obtain ⟨h4, h5⟩ := good_compile hc
      exact hk1 _ _ (by rw [hJ]; exact ⟨g1, hg1, .inl ⟨rfl, cv, sel, m, hcv, htot, h4, h5, h3⟩⟩)
  · try simp only [↓E2, ↓E3]
    refine h1.al fun b7 w2 h2 => ?_
    refine st_all (c := cZ) (c2 := cZ) h2 rfl rfl rfl fun w3 h3 => ?_
    refine jn1 (J b7) (rest b7) fun k1 hk1 => ?_
    rw [cnd_eq]
    constructor
    · intro _
      exact method b7 cZ g1 w3 k1 rfl hg1 h3 hk1
    · intro _
      exact hk1 _ _ (by rw [hJ]; exact ⟨g1, hg1, .inr ⟨e, rfl, compile_err hc, h3⟩⟩)
end Go.Vx
namespace Go.Vx
open Go Go.Proofs
variable {R : Ending → World → Prop} {w : World} {H hp T : Hp}

theorem Tr.calls {P : Program} {g : FuncId} {args : List Value} (he : Enter P g) (h : Tr P g args w R) : Calls P g args.toArray w R := by
  rcases h with ⟨_, h⟩ | ⟨v, w', h, _⟩
  · exact h
  · rw [he.run] at h
    simp at h

/-- All that there is stays. -/
def gAll (w : World) : G := ⟨fun b => w.heap[b]?, w.os, w.tape, w.output⟩
theorem sat_all (w : World) : Sat (gAll w) w [] := ⟨rfl, rfl, rfl, fun _ _ h => h, fun _ _ h => by simp at h, by simp⟩
theorem sat_below {w' : World} {g : G} (hg : (gAll w).le g) (h : Sat g w' H) : RowKit.Below w.heap.size w w' := by
  have hb : ∀ k, k < w.heap.size → w'.heap[k]? = w.heap[k]? := fun k hk => by
    have e : w.heap[k]? = some w.heap[k] := Array.getElem?_eq_getElem hk
    rw [h.imm k _ (hg.imm k _ e), e]
  refine ⟨h.os.trans hg.os, h.tape.trans hg.tape, h.out.trans hg.out, ?_, hb⟩
  by_cases h0 : w.heap.size = 0
  · omega
  · have := hb (w.heap.size - 1) (by omega)
    rw [Array.getElem?_eq_getElem (by omega : w.heap.size - 1 < w.heap.size)] at this
    have := (Array.getElem?_eq_some_iff.1 this).1
    omega

theorem cell_gAll {a : Addr} {v : Value} (h : w.cell? a = some v) : a.spot = none ∧ (gAll w).cell? a.block a.off = some v := by
  unfold World.cell? at h
  unfold G.cell? gAll
  cases hb : w.heap[a.block]? with
  | none => rw [hb] at h; simp at h
  | some o =>
    rw [hb] at h
    cases o with
    | cells c t fr =>
      simp only [] at h ⊢
      split at h
      · simp at h
      · rename_i hs
        refine ⟨by simpa using hs, ?_⟩
        rw [hb]
        exact h
    | _ => simp at h

theorem strV (s : ByteArray) : Value.string s = str s.data.toList := by
  cases s
  simp [str]

/-- A list of texts among the arguments. -/
theorem arg_strs {P : Program} {Ht : Type} {enc : TypeId × Value → Ht} {t e : TypeId} {r : Reach} {b0 : Nat} {v : Value} {d : DataW Ht} {ps : List MemPlace} (ht : P.underlying t = some (.slice e)) (he : P.underlying e = some .string) (hc : P.cellsOf e = 1) (hby : P.bytesOf e = 16) (hwt : ∀ x ∈ d.weights P t, x ≤ reachBytes)
    (hval : Value.okWide P w r b0 t v) (hd : DataW.Trod enc P w 0 (fun _ => true) true t v d ps) : ∃ l : List (List UInt8), SS (gAll w) v l ∧ l.length ≤ 4611686018427387904 := by
  obtain ⟨a0, len, cap, rfl⟩ := WideShapes.okWide_slice ht hval
  obtain ⟨fuel, hf⟩ := hd
  rcases ChangeShapes.open_strings ht he hc hf with ⟨hcs, _⟩ | ⟨a, len', cap', ss, hcs, _, hl, hm, hz, hx, hcell, _⟩
  · simp only [Value.cells, List.cons.injEq, and_true] at hcs
    rw [hcs]
    exact ⟨[], Sl.nil _ 1, by simp⟩
  · simp only [Value.cells, List.cons.injEq, and_true] at hcs
    injection hcs with h1 h2 h3
    subst h1 h2 h3
    have hsp : a.spot = none := by
      simp only [Value.okWide, ht, Cell.okWide, Cell.ok] at hval
      exact hval.2.2.2.1
    have hlen : (ss.take len).length = len := by rw [List.length_take, hz]; simp; omega
    have hml : len * 16 ≤ reachBytes := by
      simp only [Prod.mk.injEq] at hx
      have := hwt
      rw [hx.1] at this
      simp only [DataW.weights, ht, List.mem_cons, forall_eq_or_imp, hby] at this
      have := this.1
      simp only [ChangeShapes.strs, List.length_map, hlen] at this
      omega
    have hrb : reachBytes ≤ 140737488355328 := by decide
    refine ⟨(ss.take len).map (·.data.toList), ?_, by rw [List.length_map, hlen]; omega⟩
    have hl2 : ((ss.take len).map (·.data.toList)).length = len := by rw [List.length_map, hlen]
    rw [SS, hl2]
    refine ⟨_, _, rfl, hl, by rw [List.length_map, hl2]; omega, .inr ⟨a.block, a.off, ?_, fun j x hx => ?_⟩⟩
    · obtain ⟨b, o, s⟩ := a
      simp only at hsp
      rw [hsp]
    · rw [List.map_map, List.getElem?_map] at hx
      obtain ⟨s, hs, rfl⟩ := Option.map_eq_some_iff.1 hx
      rw [List.getElem?_take] at hs
      split at hs
      · rename_i hj
        have hj2 := (List.getElem?_eq_some_iff.1 hs).1
        have hk := hcell j hj2
        rw [List.getD_eq_getElem?_getD, hs, Option.getD_some] at hk
        have := (cell_gAll hk).2
        rw [strV] at this
        unfold Addr.add at this
        split at this
        · rename_i h0
          rw [h0]
          exact this
        · exact this
      · simp at hs
end Go.Vx
