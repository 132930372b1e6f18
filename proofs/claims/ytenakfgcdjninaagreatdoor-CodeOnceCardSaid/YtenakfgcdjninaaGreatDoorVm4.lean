/- Part 4 of the walk: a calculus of conditions over the model, and contracts of the functions of the program, in their plain form. No claim stands here. -/
import Derived.Test.YtenakfgcdjninaaGreatDoorVm3
set_option linter.unusedVariables false
set_option linter.unusedSimpArgs false
set_option linter.unusedSectionVars false
set_option linter.unnecessarySimpa false
namespace Go.Vx
open Go Go.Proofs
variable {R : Ending → World → Prop} {g : G} {w : World} {H hp : Hp}

theorem sc_intro {n : Nat} {first : (Nat → List Value → World → Prop) → Prop} {rests : List (Nat × ((Nat → List Value → World → Prop) → Fn n))} (J : Nat → Nat → List Value → World → Prop)
    (h1 : first (fun l vs w' => ∃ m, J m l vs w')) (h2 : ∀ p ∈ rests, ∀ m, allFn n (J m p.1) (p.2 (fun l' vs w' => ∃ m', m' < m ∧ J m' l' vs w'))) : sc n first rests := ⟨J, h1, h2⟩

theorem jnI {n : Nat} {k : Fn n} {b : Fn n → Prop} (h : b k) : jn n k b := h

theorem ble_dec (a : Nat) : decide ((a : Int) ≤ 1024) = Nat.ble a 1024 := by
  rw [Bool.eq_iff_iff]
  simp only [decide_eq_true_eq, Nat.ble_eq]
  omega

theorem e58 : (58 : Int) = ((58 : UInt8).toNat : Int) := rfl
theorem e39 : (39 : Int) = ((39 : UInt8).toNat : Int) := rfl

theorem byt_ne (a b : UInt8) : (!decide ((a.toNat : Int) = (b.toNat : Int))) = (a != b) := by
  rw [byt_eq]; rfl

theorem peek_get {s : List UInt8} {j : Nat} (h : j < s.length) : s[j]? = some (peekS s j) := by
  simp [peekS, h]

theorem c_quoted {r : Nat} {s : List UInt8} {i : Nat} (hs : Short s) (hi : i ≤ s.length) (hS : Sat g w ((r, rdr s i) :: H))
    (hR : ∀ w', Sat g w' ((r, rdr s (quotedS s i).2) :: H) → R (.returned (.tuple #[str (quotedS s i).1.1, .bool (quotedS s i).1.2])) w') : Tr P F.lex_reader_quoted [ptr r 0] w R := by
  apply t_lex_reader_quoted
  unfold d_lex_reader_quoted
  unfold Short at hs
  refine sc_intro (fun m l vs w => (peekS s i == 39) = false ∧ Sat g w ((r, rdr s i) :: H)) ?_ ?_
  · refine hS.al fun b w1 h1 => ?_
    simp only [↓E2]
    refine c_peek (k := 0) h1.swap2 (by omega) fun w2 h2 => ?_
    rw [Nat.add_zero] at *
    simp only [↓E1, ↓E3]
    rw [e39, byt_ne, cnd_eq]
    constructor
    · intro hne
      have hne' : (peekS s i == 39) = false := by simpa using hne
      exact ⟨0, hne', h2.swap2.tail⟩
    · intro heq
      have heq' : (peekS s i == 39) = true := by simpa using heq
      have hlt : i < s.length := by
        rcases Nat.lt_or_ge i s.length with h | h
        · exact h
        · simp [peekS, List.getD_eq_getElem?_getD, List.getElem?_eq_none h] at heq'
      have hq : quotedS s i = quoGo (s.length + 1) s (i + 1) [] := by simp [quotedS, heq']
      simp only [↓E1, ↓E3, ↓h2.ld0, Nat.reduceAdd, Nat.reduceLT]
      rw [wrap64_succ (by omega)]
      refine h2.st rfl (by simp) rfl fun w3 h3 => ?_
      refine lp2 (fun m x y w => ∃ j acc v hp p f, j ≤ s.length ∧ m = s.length - j ∧ Adr b p ∧ Grow Ty.uint8 1 v acc.length (bcs acc) hp ∧ acc.length ≤ j ∧ quoGo f s j acc = quotedS s i ∧ s.length < f + j ∧ Sat g w ((r, rdr s j) :: (b, bld p v) :: (hp ++ H)))
        (s.length - (i + 1)) ⟨i + 1, [], _, [], _, s.length + 1, by omega, rfl, .inl rfl, .nil, by simp, hq.symm, by omega, h3⟩ ?_
      rintro m x y w4 ⟨j, acc, v, hp, p, f, hj, rfl, hp', hg, hal, hf, hfl, h4⟩
      obtain ⟨f, rfl⟩ : ∃ f', f = f' + 1 := ⟨f - 1, by omega⟩
      have h5 := h4.drew
      simp only [↓E1, ↓E2, ↓E3, ↓C1, ↓h5.ld0, Nat.reduceAdd, Nat.reduceLT]
      constructor
      · intro hlt
        have hlt : j < s.length := by omega
        have hget := peek_get hlt
        refine jnI ?_
        refine jn2 (fun _ _ w => ∃ jj ff, jj < s.length ∧ j ≤ jj ∧ s.length < ff + (jj + 1) ∧ quoGo ff s (jj + 1) (acc ++ [peekS s jj]) = quotedS s i ∧ Sat g w ((r, rdr s jj) :: (b, bld p v) :: (hp ++ H))) ?_ ?_
        · rintro x' y' w6 ⟨jj, ff, hjj, hj2, hffl, hff, h6⟩
          have h7 := h6.drew
          simp only [↓E1, ↓E2, ↓E3, ↓h7.ld0, Nat.reduceAdd, Nat.reduceLT]
          refine ⟨by omega, peekS s jj, by simpa using peek_get hjj, ?_⟩
          have h8 : Sat g w6.drew ((b, bld p v) :: (hp ++ ((r, rdr s jj) :: H))) := h7.perm ((List.Perm.swap _ _ _).trans (.cons _ List.perm_middle.symm))
          refine c_WriteByte h8 hp' hg (by omega) fun v' hp2 w9 hg9 h9 => ?_
          have h10 : Sat g w9 ((r, rdr s jj) :: (b, bld (ptr b 0) v') :: (hp2 ++ H)) := h9.perm ((List.Perm.cons _ List.perm_middle).trans (List.Perm.swap _ _ _))
          simp only [↓E1, ↓E3, ↓h10.ld0, Nat.reduceAdd, Nat.reduceLT]
          rw [wrap64_succ (by omega)]
          refine h10.st rfl (by simp) rfl fun w11 h11 => ?_
          refine ⟨s.length - (jj + 1), by omega, _, _, rfl, jj + 1, acc ++ [peekS s jj], v', hp2, _, ff, by omega, rfl, .inr rfl, by simpa using hg9, by simp; omega, hff, by omega, h11⟩
        · intro k hk
          have h6 := h5.drew
          simp only [↓E1, ↓E2, ↓E3, ↓h6.ld0, Nat.reduceAdd, Nat.reduceLT]
          refine ⟨by omega, peekS s j, by simpa using hget, ?_⟩
          rw [byt_eq, cnd_eq]
          constructor
          · intro hc
            refine c_peek (k := 1) h6 (by omega) fun w7 h7 => ?_
            simp only [↓E1, ↓E3]
            rw [byt_ne, cnd_eq]
            constructor
            · intro hc2
              have hc2' : (peekS s (j + 1) == 39) = false := by simpa using hc2
              simp only [↓E1, ↓E2, ↓E3, ↓h7.ld0, Nat.reduceAdd, Nat.reduceLT]
              rw [wrap64_succ (by omega)]
              refine h7.st rfl (by simp) rfl fun w8 h8 => ?_
              have h9 : Sat g w8 ((b, bld p v) :: (hp ++ ((r, rdr s (j + 1)) :: H))) := h8.perm ((List.Perm.swap _ _ _).trans (.cons _ List.perm_middle.symm))
              refine c_BString h9 hg (by omega) fun w10 h10 => ?_
              simp only [↓E2, ↓E3]
              refine c_BLen (l := acc) h10 hg.slice fun w11 h11 => ?_
              simp only [↓E1, ↓E3]
              have hres : quotedS s i = ((acc, Nat.ble acc.length 1024), j + 1) := by
                rw [← hf]
                simp only [quoGo, hget]
                rw [hc, hc2']
                rfl
              rw [hres] at hR
              rw [ble_dec]
              exact hR _ h11.tail
            · intro hc2
              have hc2' : (peekS s (j + 1) == 39) = true := by simpa using hc2
              have hlt2 : j + 1 < s.length := by
                rcases Nat.lt_or_ge (j + 1) s.length with h | h
                · exact h
                · simp [peekS, List.getD_eq_getElem?_getD, List.getElem?_eq_none h] at hc2'
              simp only [↓E1, ↓E2, ↓E3, ↓h7.ld0, Nat.reduceAdd, Nat.reduceLT]
              rw [wrap64_succ (by omega)]
              refine h7.st rfl (by simp) rfl fun w8 h8 => ?_
              refine hk _ _ _ ⟨j + 1, f, hlt2, by omega, by omega, ?_, h8⟩
              rw [← hf]
              simp only [quoGo, hget]
              rw [hc, hc2']
              have : peekS s (j + 1) = 39 := by simpa using hc2'
              rw [this]
              rfl
          · intro hc
            refine hk _ _ _ ⟨j, f, hlt, by omega, by omega, ?_, h6⟩
            rw [← hf]
            simp only [quoGo, hget]
            rw [hc]
            rfl
      · intro hge
        have hj2 : s[j]? = none := List.getElem?_eq_none (by omega)
        have hres : quotedS s i = (([], false), j) := by
          rw [← hf]
          simp only [quoGo, hj2]
        rw [hres] at hR
        have h6 : Sat g w4.drew ((r, rdr s j) :: H) := Sat.drop (A := (b, bld p v) :: hp) (h5.perm (List.perm_middle (a := (r, rdr s j)) (l₁ := (b, bld p v) :: hp) (l₂ := H)).symm)
        exact hR _ h6
  · intro p hp m
    simp only [List.mem_singleton] at hp
    subst hp
    intro x2 x3 w ⟨hne, h⟩
    have hres : quotedS s i = (([], false), i) := by simp [quotedS, hne]
    rw [hres] at hR
    exact hR _ h
theorem quo_le {s : List UInt8} : ∀ {f i : Nat} {acc : List UInt8}, i ≤ s.length → i ≤ (quoGo f s i acc).2 ∧ (quoGo f s i acc).2 ≤ s.length := by
  intro f
  induction f with
  | zero => intro i acc h; exact ⟨Nat.le_refl _, h⟩
  | succ f ih =>
    intro i acc h
    simp only [quoGo]
    cases hc : s[i]? with
    | none => exact ⟨Nat.le_refl _, h⟩
    | some c =>
      have hlt := (List.getElem?_eq_some_iff.1 hc).1
      cases h1 : (c == 39)
      · simp only [h1, cond_false]
        have := ih (i := i + 1) (acc := acc ++ [c]) (by omega)
        omega
      · cases h2 : (peekS s (i + 1) == 39)
        · simp only [h1, h2, cond_true, cond_false]
          omega
        · have hlt2 : i + 1 < s.length := by
            rcases Nat.lt_or_ge (i + 1) s.length with h | h
            · exact h
            · simp [peekS, List.getD_eq_getElem?_getD, List.getElem?_eq_none h] at h2
          simp only [h1, h2, cond_true]
          have := ih (i := i + 2) (acc := acc ++ [39]) (by omega)
          omega
theorem quoted_le {s : List UInt8} {i : Nat} (h : i ≤ s.length) : i ≤ (quotedS s i).2 ∧ (quotedS s i).2 ≤ s.length := by
  unfold quotedS
  cases hc : (peekS s i == 39)
  · exact ⟨Nat.le_refl _, h⟩
  · have hlt : i < s.length := by
      rcases Nat.lt_or_ge i s.length with h | h
      · exact h
      · simp [peekS, List.getD_eq_getElem?_getD, List.getElem?_eq_none h] at hc
    simp only [cond_true]
    have := quo_le (s := s) (f := s.length + 1) (i := i + 1) (acc := []) (by omega)
    omega

theorem peek_lt {s : List UInt8} {i : Nat} {c : UInt8} (hc : (peekS s i == c) = true) (h0 : c ≠ 0) : i < s.length := by
  rcases Nat.lt_or_ge i s.length with h | h
  · exact h
  · have : peekS s i = 0 := by simp [peekS, List.getD_eq_getElem?_getD, List.getElem?_eq_none h]
    rw [this] at hc
    have h1 : (0 : UInt8) = c := by simpa using hc
    exact absurd h1.symm h0

theorem colon_lt {s : List UInt8} {i : Nat} (h : colonS s i = true) : i < s.length := by
  unfold colonS at h
  rw [Bool.and_eq_true] at h
  exact peek_lt h.1 (by decide)

theorem col_le {s : List UInt8} : ∀ {f i : Nat}, i ≤ s.length → i ≤ colGo f s i ∧ colGo f s i ≤ s.length := by
  intro f
  induction f with
  | zero => intro i h; exact ⟨Nat.le_refl _, h⟩
  | succ f ih =>
    intro i h
    simp only [colGo]
    cases hc : colonS s i
    · exact ⟨Nat.le_refl _, h⟩
    · have hlt := colon_lt hc
      have h1 := name_le (s := s) (i := i + 1) (by omega)
      have h2 := ih (i := (nameS s (i + 1)).2) h1.2
      simp only [cond_true]
      omega

theorem c_symbol {r : Nat} {s : List UInt8} {i : Nat} (hs : Short s) (hi : i ≤ s.length) (hS : Sat g w ((r, rdr s i) :: H))
    (hR : ∀ w', Sat g w' ((r, rdr s (symbolS s i).2) :: H) → R (.returned (.tuple #[str (symbolS s i).1.1, .bool (symbolS s i).1.2])) w') : Tr P F.lex_reader_symbol [ptr r 0] w R := by
  apply t_lex_reader_symbol
  unfold d_lex_reader_symbol
  have hs' := hs
  unfold Short at hs'
  simp only [↓E1, ↓E2, ↓E3, ↓hS.ld0, Nat.reduceAdd, Nat.reduceLT]
  refine jn2 (fun _ _ w => ∃ j, i ≤ j ∧ j ≤ s.length ∧ symbolS s i = ((cut s i j, Nat.ble (j - i) 1024), j) ∧ Sat g w ((r, rdr s j) :: H)) ?_ ?_
  · rintro x y w1 ⟨j, hij, hj, hres, h1⟩
    have h2 := h1.drew
    simp only [↓E1, ↓E2, ↓E3, ↓h2.ld0, Nat.reduceAdd, Nat.reduceLT, sl_lo_hi]
    rw [hres] at hR
    refine ⟨by omega, by omega, by omega, ?_⟩
    rw [wrap64_sub hij (by omega), ble_dec]
    have := hR _ h2
    simpa [cut] using this
  · intro k hk
    refine c_name hs hi hS fun w1 h1 => ?_
    have hn := name_le (s := s) (i := i) hi
    simp only [↓E3]
    rw [cnd_eq]
    constructor
    · intro hb
      refine lp0 (fun m w => ∃ j f, (nameS s i).2 ≤ j ∧ j ≤ s.length ∧ m = s.length - j ∧ colGo f s j = colGo (s.length + 1) s (nameS s i).2 ∧ s.length < f + j ∧ Sat g w ((r, rdr s j) :: H)) rfl _ ⟨(nameS s i).2, s.length + 1, Nat.le_refl _, hn.2, rfl, rfl, by omega, h1⟩ ?_
      rintro m w2 ⟨j, f, hnj, hj, rfl, hf, hfl, h2⟩
      obtain ⟨f, rfl⟩ : ∃ f', f = f' + 1 := ⟨f - 1, by omega⟩
      refine c_colon hs hj h2 fun w3 h3 => ?_
      simp only [↓E1, ↓E2, ↓E3, ↓h3.ld0, Nat.reduceAdd, Nat.reduceLT]
      rw [cnd_eq]
      have hf0 : colGo (f + 1) s j = bif colonS s j then colGo f s (nameS s (j + 1)).2 else j := rfl
      rw [hf0] at hf
      constructor
      · intro hc
        have hlt := colon_lt hc
        rw [hc] at hf
        rw [wrap64_succ (by omega)]
        refine h3.st rfl (by simp) rfl fun w4 h4 => ?_
        have hn2 := name_le (s := s) (i := j + 1) (by omega)
        refine c_name hs (by omega) h4 fun w5 h5 => ?_
        exact ⟨s.length - (nameS s (j + 1)).2, by omega, trivial, (nameS s (j + 1)).2, f, by omega, hn2.2, rfl, hf, by omega, h5⟩
      · intro hc
        rw [hc] at hf
        refine hk _ _ _ ⟨j, by omega, hj, ?_, h3⟩
        simp only [cond_false] at hf
        unfold symbolS
        rw [hb]
        simp only [cond_true, ← hf]
    · intro hb
      have hn1 : (nameS s i).2 = i := by
        unfold nameS at hb ⊢
        cases h : isAt letterB s i
        · rfl
        · rw [h] at hb; simp at hb
      rw [hn1] at h1
      refine c_sign hs hi h1 fun w2 h2 => ?_
      simp only [↓E1, ↓E2, ↓E3]
      rw [cnd_eq]
      have hsym : symbolS s i = bif Nat.blt i (signS s i) then ((cut s i (signS s i), Nat.ble (signS s i - i) 1024), signS s i) else quotedS s i := by
        unfold symbolS
        rw [hb]
        rfl
      constructor
      · intro hc
        have hc' : Nat.blt i (signS s i) = false := by simpa using hc
        have hsi : signS s i = i := by
          have : ¬ i < signS s i := by
            intro h
            rw [← Nat.blt_eq] at h
            rw [h] at hc'
            simp at hc'
          unfold signS at *
          cases h1 : isAt signB s i
          · rfl
          · rw [h1] at this
            cases h2 : isAt signB s (i + 1)
            · rw [h2] at this; simp at this
            · rw [h2] at this; simp at this
        rw [hsi] at h2
        rw [hc'] at hsym
        simp only [cond_false] at hsym
        refine c_quoted hs hi h2 fun w3 h3 => ?_
        simp only [↓E2, ↓E3]
        rw [hsym] at hR
        exact hR _ h3
      · intro hc
        have hc' : Nat.blt i (signS s i) = true := by simpa using hc
        rw [hc'] at hsym
        have hlt : i < signS s i := by simpa using hc'
        have hle : signS s i ≤ s.length := by
          unfold signS
          cases h1 : isAt signB s i
          · exact hi
          · have := isAt_lt h1
            cases h2 : isAt signB s (i + 1)
            · exact this
            · have := isAt_lt h2
              simp only [cond_true]
              omega
        exact hk _ _ _ ⟨signS s i, by omega, hle, hsym, h2⟩
end Go.Vx
namespace Go.Vx
open Go Go.Proofs
variable {R : Ending → World → Prop} {g : G} {w : World} {H hp : Hp}

/-- What is to be shown of whole.Read, at digits. -/
def WholeOK : Prop := ∀ {t : List UInt8} {g : G} {w : World} {H : Hp} {R : Ending → World → Prop}, t ≠ [] → t.length ≤ 4096 → (∀ c ∈ t, digitB c = true) → Sat g w H →
  (∀ g' b sl e w', g.le g' → Sat g' w' H → one sl = true → decide (e = 0) = numB t → R (.returned (.tuple #[.agg #[.bool b, sl], i64 e])) w') → Tr P F.whole_Read [str t] w R

theorem bdI {z : List Value} {ps : List (Nat × Nat × Value)} {cs : List Value} {K : Value → World → Prop} {w : World} (h : fillV z ps = some cs) (hk : K (.agg cs.toArray) w) : bd z ps K w := ⟨cs, h, hk⟩

theorem Sat.ldn0 {b : Nat} {c : List Value} {t : TypeId} {fr : Nat × Nat} {K : Value → World → Prop} {n : Nat} (h : Sat g w ((b, .cells c.toArray t fr) :: H)) (hn : n = c.length) (hk : K (.agg c.toArray) w) : ldn n (ptr b 0) K w := by
  subst hn
  refine h.ldnH (b := b) (c := c) (t := t) (fr := fr) (by simp) _ 0 (by simp) ?_
  simpa using hk

theorem allOne2 {b : Bool} {sl : Value} (h : one sl = true) : allOne (Value.agg #[.bool b, sl]).cells.toList = true := by
  show (one (.bool b) && (one sl && true)) = true
  rw [h]; rfl

def tokCells (t : Tok) : List Value := [i64 (t.kind : Int), str t.text, i64 (t.pos : Int)]
abbrev tokV (t : Tok) : Value := .agg (tokCells t).toArray

theorem skip_digits {p : UInt8 → Bool} : ∀ (l : List UInt8), ∀ c ∈ l.take (scan p l), p c = true := by
  intro l
  induction l with
  | nil => intro c hc; simp at hc
  | cons x l ih =>
    intro c hc
    simp only [scan] at hc
    cases hx : p x
    · rw [hx] at hc; simp at hc
    · rw [hx] at hc
      simp only [cond_true, List.take_succ_cons, List.mem_cons] at hc
      rcases hc with rfl | hc
      · exact hx
      · exact ih c hc

theorem e35 : (35 : Int) = ((35 : UInt8).toNat : Int) := rfl
theorem e40 : (40 : Int) = ((40 : UInt8).toNat : Int) := rfl
theorem e61 : (61 : Int) = ((61 : UInt8).toNat : Int) := rfl

theorem symbol_le {s : List UInt8} {i : Nat} (h : i ≤ s.length) : i ≤ (symbolS s i).2 ∧ (symbolS s i).2 ≤ s.length := by
  unfold symbolS
  have hn := name_le (s := s) (i := i) h
  cases hb : (nameS s i).1
  · simp only [cond_false]
    cases hc : Nat.blt i (signS s i)
    · exact quoted_le h
    · simp only [cond_true]
      have : i < signS s i := by simpa using hc
      refine ⟨by omega, ?_⟩
      unfold signS
      cases h1 : isAt signB s i
      · exact h
      · have := isAt_lt h1
        cases h2 : isAt signB s (i + 1)
        · exact this
        · have := isAt_lt h2
          simp only [cond_true]
          omega
  · simp only [cond_true]
    have := col_le (s := s) (f := s.length + 1) hn.2
    omega

theorem sign_le {s : List UInt8} {i : Nat} (h : i ≤ s.length) : i ≤ signS s i ∧ signS s i ≤ s.length := by
  unfold signS
  cases h1 : isAt signB s i
  · exact ⟨Nat.le_refl _, h⟩
  · have := isAt_lt h1
    cases h2 : isAt signB s (i + 1)
    · simp only [cond_true, cond_false]; omega
    · have := isAt_lt h2
      simp only [cond_true]
      omega

theorem c_word (hW : WholeOK) {r : Nat} {s : List UInt8} {i : Nat} (hs : s.length ≤ 4096) (hi : i < s.length) (hS : Sat g w ((r, rdr s i) :: H))
    (hR : ∀ g' w', g.le g' → Sat g' w' ((r, rdr s (wordS s i).2) :: H) → R (.returned (.tuple #[tokV (wordS s i).1.1, .bool (wordS s i).1.2])) w') : Tr P F.lex_reader_word [ptr r 0] w R := by
  have hsh : Short s := by unfold Short; omega
  apply t_lex_reader_word
  unfold d_lex_reader_word
  refine hS.al fun b2 w1 h1 => ?_
  have h1 := h1.swap2
  simp only [↓E1, ↓E2, ↓E3, ↓h1.ld0, Nat.reduceAdd, Nat.reduceLT]
  refine bdI (cs := [i64 0, str [], i64 (i : Int)]) rfl ?_
  refine h1.al fun b4 w2 h2 => ?_
  refine h2.st (c := [.int .i64 0, .string ⟨#[]⟩, .int .i64 0]) rfl (by simp) rfl fun w3 h3 => ?_
  have h3 : Sat g w3 ((b4, .cells [i64 0, str [], i64 (i : Int)].toArray 112) :: (r, rdr s i) :: (b2, .cells [i64 0, str [], i64 0].toArray 112) :: H) := h3
  have h3 := h3.swap2
  -- where the ways meet
  refine jn2 (fun _ x5 w => ∃ g1 ok k j, g.le g1 ∧ x5 = .bool ok ∧ i ≤ j ∧ j ≤ s.length ∧ wordS s i = ((⟨k, cut s i j, i⟩, ok), j) ∧
      Sat g1 w ((r, rdr s j) :: (b4, .cells [i64 (k : Int), str [], i64 (i : Int)].toArray 112) :: (b2, .cells [i64 0, str [], i64 0].toArray 112) :: H)) ?_ ?_
  · rintro x3 x5 w4 ⟨g1, ok, k, j, hg1, rfl, hij, hj, hres, h4⟩
    have h5 := h4.drew
    simp only [↓E1, ↓E2, ↓E3, ↓h5.ld0, ↓h5.ld1, Nat.reduceAdd, Nat.reduceLT, sl_lo_hi]
    refine ⟨by omega, by omega, by omega, ?_⟩
    refine h5.swap2.st rfl (by simp) rfl fun w6 h6 => ?_
    have h6 : Sat g1 w6 ((b4, .cells [i64 (k : Int), str (cut s i j), i64 (i : Int)].toArray 112) :: (r, rdr s j) :: (b2, .cells [i64 0, str [], i64 0].toArray 112) :: H) := h6
    refine h6.ldn0 (c := [i64 (k : Int), str (cut s i j), i64 (i : Int)]) rfl ?_
    have h7 : Sat g1 w6 ((b2, .cells [i64 0, str [], i64 0].toArray 112) :: (b4, .cells [i64 (k : Int), str (cut s i j), i64 (i : Int)].toArray 112) :: (r, rdr s j) :: H) :=
      h6.perm (List.perm_middle (l₁ := [(b4, _), (r, _)]))
    refine h7.st (c := [i64 0, str [], i64 0]) rfl (by simp) rfl fun w8 h8 => ?_
    have h8 : Sat g1 w8 ((b2, .cells [i64 (k : Int), str (cut s i j), i64 (i : Int)].toArray 112) :: (b4, .cells [i64 (k : Int), str (cut s i j), i64 (i : Int)].toArray 112) :: (r, rdr s j) :: H) := h8
    refine h8.ldn0 (c := [i64 (k : Int), str (cut s i j), i64 (i : Int)]) rfl ?_
    rw [hres] at hR
    exact hR _ _ hg1 h8.tail.tail
  · intro k hk
    have h4 := h3.drew
    simp only [↓E1, ↓E2, ↓E3, ↓h4.ld0, Nat.reduceAdd, Nat.reduceLT]
    refine ⟨by omega, peekS s i, by simpa using peek_get hi, ?_⟩
    apply c_letter
    simp only [↓E3]
    rw [cnd_eq]
    -- one more byte (or two), and a kind
    have made : ∀ (kd n : Nat) (w5 : World) (g1 : G) (ok : Bool), g.le g1 → i ≤ n → n ≤ s.length → wordS s i = ((⟨kd, cut s i n, i⟩, ok), n) →
        Sat g1 w5 ((r, rdr s n) :: (b4, .cells [i64 (kd : Int), str [], i64 (i : Int)].toArray 112) :: (b2, .cells [i64 0, str [], i64 0].toArray 112) :: H) → k (.bool false) (.bool ok) w5 :=
      fun kd n w5 g1 ok hg h1 h2 h3 h4 => hk _ _ _ ⟨g1, ok, kd, n, hg, rfl, h1, h2, h3, h4⟩
    have kind : ∀ (kd : Nat) (n : Nat) (w5 : World) (g1 : G) (k0 : Nat) (K : World → Prop), Sat g1 w5 ((r, rdr s n) :: (b4, .cells [i64 (k0 : Int), str [], i64 (i : Int)].toArray 112) :: (b2, .cells [i64 0, str [], i64 0].toArray 112) :: H) →
        (∀ w6, Sat g1 w6 ((r, rdr s n) :: (b4, .cells [i64 (kd : Int), str [], i64 (i : Int)].toArray 112) :: (b2, .cells [i64 0, str [], i64 0].toArray 112) :: H) → K w6) → st 1 (ptr b4 0) (i64 (kd : Int)) K w5 := by
      intro kd n w5 g1 k0 K h hK
      refine h.swap2.st rfl (by simp) rfl fun w6 h6 => hK _ ?_
      exact Sat.swap2 (h6 : Sat g1 w6 ((b4, .cells [i64 (kd : Int), str [], i64 (i : Int)].toArray 112) :: (r, rdr s n) :: (b2, .cells [i64 0, str [], i64 0].toArray 112) :: H))
    have last : ∀ (kd : Nat) (t : List UInt8) (ok : Bool) (n : Nat) (w5 : World), wordS s i = ((⟨kd, t, i⟩, ok), n) →
        Sat g w5 ((r, rdr s n) :: (b4, .cells [i64 (kd : Int), str [], i64 (i : Int)].toArray 112) :: (b2, .cells [i64 0, str [], i64 0].toArray 112) :: H) →
        st 1 (ptr b4 1) (str t) (fun w => ldn 3 (ptr b4 0) (fun t86 w => st 3 (ptr b2 0) t86 (fun w => ldn 3 (ptr b2 0) (fun r0 w => R (.returned (.tuple #[r0, .bool ok])) w) w) w) w) w5 := by
      intro kd t ok n w5 hres h
      refine h.swap2.st rfl (by simp) rfl fun w6 h6 => ?_
      have h6 : Sat g w6 ((b4, .cells [i64 (kd : Int), str t, i64 (i : Int)].toArray 112) :: (r, rdr s n) :: (b2, .cells [i64 0, str [], i64 0].toArray 112) :: H) := h6
      refine h6.ldn0 (c := [i64 (kd : Int), str t, i64 (i : Int)]) rfl ?_
      have h7 : Sat g w6 ((b2, .cells [i64 0, str [], i64 0].toArray 112) :: (b4, .cells [i64 (kd : Int), str t, i64 (i : Int)].toArray 112) :: (r, rdr s n) :: H) :=
        h6.perm (List.perm_middle (l₁ := [(b4, _), (r, _)]))
      refine h7.st (c := [i64 0, str [], i64 0]) rfl (by simp) rfl fun w8 h8 => ?_
      have h8 : Sat g w8 ((b2, .cells [i64 (kd : Int), str t, i64 (i : Int)].toArray 112) :: (b4, .cells [i64 (kd : Int), str t, i64 (i : Int)].toArray 112) :: (r, rdr s n) :: H) := h8
      refine h8.ldn0 (c := [i64 (kd : Int), str t, i64 (i : Int)]) rfl ?_
      rw [hres] at hR
      exact hR _ _ (.refl g) h8.tail.tail
    constructor
    · intro hl
      have hn := name_le (s := s) (i := i) (by omega)
      refine c_name hsh (by omega) h4 fun w6 h6 => ?_
      try simp only [↓E1, ↓E3, Nat.reduceAdd]
      refine kind 1 _ _ _ 0 _ h6 fun w7 h7 => ?_
      try simp only [↓E2]
      refine c_colon hsh hn.2 h7 fun w8 h8 => ?_
      try simp only [↓E1, ↓E3, Nat.reduceAdd]
      rw [cnd_eq]
      constructor
      · intro hc
        have hlt := colon_lt hc
        refine kind 2 _ _ _ 1 _ h8 fun w9 h9 => ?_
        try simp only [↓E1, ↓E3, ↓h9.ld0, Nat.reduceAdd, Nat.reduceLT]
        rw [wrap64_succ (by omega)]
        refine h9.st rfl (by simp) rfl fun w10 h10 => ?_
        refine made 2 ((nameS s i).2 + 1) _ _ true (.refl g) (by omega) (by omega) ?_ h10
        try simp only [wordS, hl, hc, cond_true]
      · intro hc
        refine made 1 ((nameS s i).2) _ _ true (.refl g) (by omega) (by omega) ?_ h8
        try simp only [wordS, hl, hc, cond_true, cond_false]
    · intro hl
      try simp only [↓E2]
      apply c_digit
      try simp only [↓E3]
      rw [cnd_eq]
      constructor
      · intro hd
        try simp only [↓E1, Nat.reduceAdd]
        refine kind 4 _ _ _ 0 _ h4 fun w6 h6 => ?_
        have hk' := skip_le (p := digitB) (s := s) (i := i) (by omega)
        try simp only [↓E2]
        refine c_skip hsh (by omega) h6 p_digit fun w7 h7 => ?_
        have h8 := h7.drew
        have hres : wordS s i = ((⟨4, cut s i (skipS digitB s i), i⟩, numB (cut s i (skipS digitB s i))), skipS digitB s i) := by
          try simp only [wordS, hl, hd, cond_true, cond_false]
        have hdig : ∀ c ∈ cut s i (skipS digitB s i), digitB c = true := by
          intro c hc
          unfold cut skipS at hc
          rw [Nat.add_sub_cancel_left] at hc
          exact skip_digits _ c hc
        have hpos : i < skipS digitB s i := by
          have h1 : isAt digitB s i = true := by simp [isAt, peek_get hi, hd]
          have h2 := skip_yes h1
          have h3 := skip_le (p := digitB) (s := s) (i := i + 1) (by omega)
          omega
        have hne : cut s i (skipS digitB s i) ≠ [] := by
          intro e
          have := congrArg List.length e
          simp [cut] at this
          omega
        have hlen : (cut s i (skipS digitB s i)).length ≤ 4096 := by
          simp [cut]; omega
        have hcut : List.take (((skipS digitB s i : Nat) : Int).toNat - ((i : Nat) : Int).toNat) (List.drop ((i : Nat) : Int).toNat s) = cut s i (skipS digitB s i) := rfl
        try simp only [↓E1, ↓E2, ↓E3, ↓h8.ld0, ↓h8.ld1, Nat.reduceAdd, Nat.reduceLT, sl_lo_hi, hcut]
        refine ⟨⟨by omega, by omega, by omega, ?_⟩, ⟨by omega, by omega, by omega, ?_⟩⟩
        · refine hW hne hlen hdig h8 fun g' b sl e w9 hg9 h9 hone he => ?_
          try simp only [↓E1, ↓E2, ↓E3]
          refine h9.al fun b7 w10 h10 => ?_
          refine h10.st (c := [.bool false, .slice none 0 0]) rfl (by simp) (allOne2 hone) fun w11 h11 => ?_
          try simp only [↓E1, ↓E3, he]
          exact made 4 _ _ _ _ hg9 (by omega) (by omega) hres h11.tail
        · refine h8.al fun b7 w9 h9 => ?_
          refine h9.rk (t := 132) (fr := (0, 0)) (c := [str s, i64 ((skipS digitB s i : Nat) : Int)]) (by simp) rfl ?_
          refine h9.rk (t := 112) (fr := (0, 0)) (c := [i64 (4 : Int), str [], i64 (i : Int)]) (by simp) rfl ?_
          refine h9.rk (t := 132) (fr := (0, 0)) (c := [str s, i64 ((skipS digitB s i : Nat) : Int)]) (by simp) rfl ?_
          refine hW hne hlen hdig h9 fun g' b sl e w9 hg9 h9 hone he => ?_
          try simp only [↓E1, ↓E2, ↓E3]
          refine h9.st (c := [.bool false, .slice none 0 0]) rfl (by simp) (allOne2 hone) fun w11 h11 => ?_
          try simp only [↓E1, ↓E3, he]
          exact made 4 _ _ _ _ hg9 (by omega) (by omega) hres h11.tail
      · intro hd
        try simp only [↓E1]
        rw [e39, byt_eq, cnd_eq]
        constructor
        · intro hq
          try simp only [↓E1, Nat.reduceAdd]
          refine kind 5 _ _ _ 0 _ h4 fun w6 h6 => ?_
          try simp only [↓E2]
          refine c_quoted hsh (by omega) h6 fun w7 h7 => ?_
          try simp only [↓E1, ↓E2, ↓E3, Nat.reduceAdd]
          refine last 5 _ _ _ _ ?_ h7
          try simp only [wordS, hl, hd, hq, cond_true, cond_false]
        · intro hq
          refine jn1 (fun x w => x = .bool (peekS s i == 35 && peekS s (i + 1) == 40) ∧ Sat g w ((r, rdr s i) :: (b4, .cells [i64 ((0 : Nat) : Int), str [], i64 (i : Int)].toArray 112) :: (b2, .cells [i64 0, str [], i64 0].toArray 112) :: H)) ?_ ?_
          · rintro x w5 ⟨rfl, h5⟩
            rw [cnd_eq]
            constructor
            · intro hc
              rw [Bool.and_eq_true] at hc
              have hlt := peek_lt hc.2 (by decide)
              refine kind 17 _ _ _ 0 _ h5 fun w6 h6 => ?_
              simp only [↓E1, ↓E3, ↓h6.ld0, Nat.reduceAdd, Nat.reduceLT]
              rw [wrap64_two (by omega)]
              refine h6.st rfl (by simp) rfl fun w7 h7 => ?_
              refine made 17 (i + 2) _ _ true (.refl g) (by omega) (by omega) ?_ h7
              simp only [wordS, hl, hd, hq, hc.1, hc.2, Bool.and_true, cond_true, cond_false]
            · intro hc
              try simp only [↓E1]
              rw [e35, byt_eq, cnd_eq]
              constructor
              · intro h35
                try simp only [↓E1, Nat.reduceAdd]
                refine kind 6 _ _ _ 0 _ h5 fun w6 h6 => ?_
                simp only [↓E1, ↓E3, ↓h6.ld0, Nat.reduceAdd, Nat.reduceLT]
                rw [wrap64_succ (by omega)]
                refine h6.st rfl (by simp) rfl fun w7 h7 => ?_
                refine c_symbol hsh (by omega) h7 fun w8 h8 => ?_
                simp only [↓E1, ↓E2, ↓E3, Nat.reduceAdd]
                refine last 6 _ _ _ _ ?_ h8
                rw [h35, Bool.true_and] at hc
                simp only [wordS, hl, hd, hq, hc, h35, Bool.true_and, Bool.false_and, cond_true, cond_false]
              · intro h35
                refine jn1 (fun x w => x = .bool (peekS s i == 58 && peekS s (i + 1) == 61) ∧ Sat g w ((r, rdr s i) :: (b4, .cells [i64 ((0 : Nat) : Int), str [], i64 (i : Int)].toArray 112) :: (b2, .cells [i64 0, str [], i64 0].toArray 112) :: H)) ?_ ?_
                · rintro x w6 ⟨rfl, h6⟩
                  rw [cnd_eq]
                  constructor
                  · intro hc2
                    rw [Bool.and_eq_true] at hc2
                    have hlt := peek_lt hc2.2 (by decide)
                    refine kind 7 _ _ _ 0 _ h6 fun w7 h7 => ?_
                    simp only [↓E1, ↓E3, ↓h7.ld0, Nat.reduceAdd, Nat.reduceLT]
                    rw [wrap64_two (by omega)]
                    refine h7.st rfl (by simp) rfl fun w8 h8 => ?_
                    refine made 7 (i + 2) _ _ true (.refl g) (by omega) (by omega) ?_ h8
                    simp only [wordS, hl, hd, hq, h35, hc2.1, hc2.2, Bool.and_true, Bool.false_and, cond_true, cond_false]
                  · intro hc2
                    try simp only [↓E1]
                    rw [e58, byt_eq, cnd_eq]
                    constructor
                    · intro h58
                      refine kind 16 _ _ _ 0 _ h6 fun w7 h7 => ?_
                      simp only [↓E1, ↓E3, ↓h7.ld0, Nat.reduceAdd, Nat.reduceLT]
                      rw [wrap64_succ (by omega)]
                      refine h7.st rfl (by simp) rfl fun w8 h8 => ?_
                      refine made 16 (i + 1) _ _ true (.refl g) (by omega) (by omega) ?_ h8
                      rw [h58, Bool.true_and] at hc2
                      simp only [wordS, hl, hd, hq, h35, hc2, h58, Bool.true_and, Bool.false_and, cond_true, cond_false]
                    · intro h58
                      refine c_sign hsh (by omega) h6 fun w7 h7 => ?_
                      have hsg := sign_le (s := s) (i := i) (by omega)
                      simp only [↓E3]
                      rw [cnd_eq]
                      constructor
                      · intro hsn
                        try simp only [↓E1, Nat.reduceAdd]
                        refine kind 3 _ _ _ 0 _ h7 fun w8 h8 => ?_
                        refine made 3 (signS s i) _ _ true (.refl g) (by omega) (by omega) ?_ h8
                        simp only [wordS, hl, hd, hq, h35, h58, hsn, Bool.false_and, cond_true, cond_false]
                      · intro hsn
                        have hsi : signS s i = i := by
                          have : ¬ i < signS s i := by
                            intro h
                            rw [← Nat.blt_eq] at h
                            rw [h] at hsn
                            simp at hsn
                          omega
                        rw [hsi] at h7
                        have hw : wordS s i = match idx (peekS s i) singleL with
                            | some k => ((⟨8 + k, cut s i (i + 1), i⟩, true), i + 1)
                            | none => ((⟨7, cut s i (i + 1), i⟩, false), i + 1) := by
                          simp only [wordS, hl, hd, hq, h35, h58, hsn, Bool.false_and, cond_true, cond_false]
                          cases idx (peekS s i) singleL <;> rfl
                        refine c_place (l := singleL) single_ascii h7 fun w8 h8 => ?_
                        simp only [↓E1, ↓E2, ↓E3, Nat.reduceAdd]
                        have fin : ∀ (kd : Nat) (ok : Bool), decide ((8 : Int) ≤ (kd : Int)) = ok → wordS s i = ((⟨kd, cut s i (i + 1), i⟩, ok), i + 1) → ∀ (w9 : World), Sat g w9 ((r, rdr s i) :: (b4, .cells [i64 (kd : Int), str [], i64 (i : Int)].toArray 112) :: (b2, .cells [i64 0, str [], i64 0].toArray 112) :: H) →
                            ld (ptr b4 0) (fun t28 w => bI .geq .i64 t28 (i64 8) (fun t29 w => ld (ptr r 1) (fun t33 w => bI .add .i64 t33 (i64 1) (fun t34 w => st 1 (ptr r 1) t34 (fun w => k (.bool false) t29 w) w) w) w) w) w9 := by
                          intro kd ok hok hres w9 h9
                          simp only [↓E1, ↓E3, ↓h9.ld0, ↓h9.ld1, Nat.reduceAdd, Nat.reduceLT]
                          rw [wrap64_succ (by omega), hok]
                          refine h9.st rfl (by simp) rfl fun w10 h10 => ?_
                          exact made kd (i + 1) _ _ ok (.refl g) (by omega) (by omega) hres h10
                        cases hix : idx (peekS s i) singleL with
                        | none =>
                          rw [hix] at hw
                          refine kind 7 _ _ _ 0 _ h8 fun w9 h9 => ?_
                          exact fin 7 false rfl hw _ h9
                        | some q =>
                          rw [hix] at hw
                          have hq8 : q < 8 := by
                            have := idxGo_some hix
                            simpa [singleL] using this.2
                          have hwr : IntKind.i64.wrap (8 + idxI (some q)) = ((8 + q : Nat) : Int) := by
                            simp only [idxI]
                            rw [wrap64_of (by omega) (by omega)]
                            omega
                          rw [hwr]
                          refine kind (8 + q) _ _ _ 0 _ h8 fun w9 h9 => ?_
                          exact fin (8 + q) true (by simp; omega) hw _ h9
                · intro k3 hk3
                  try simp only [↓E1]
                  rw [e58, byt_eq, cnd_eq]
                  constructor
                  · intro h58
                    refine c_peek (k := 1) h5 (by omega) fun w6 h6 => ?_
                    simp only [↓E1, ↓E3]
                    rw [e61, byt_eq]
                    exact hk3 _ _ ⟨by rw [h58]; rfl, h6⟩
                  · intro h58
                    exact hk3 _ _ ⟨by rw [h58]; rfl, h5⟩
          · intro k2 hk2
            try simp only [↓E1]
            rw [e35, byt_eq, cnd_eq]
            constructor
            · intro h35
              refine c_peek (k := 1) h4 (by omega) fun w6 h6 => ?_
              simp only [↓E1, ↓E3]
              rw [e40, byt_eq]
              exact hk2 _ _ ⟨by rw [h35]; rfl, h6⟩
            · intro h35
              exact hk2 _ _ ⟨by rw [h35]; rfl, h4⟩
end Go.Vx
namespace Go.Vx
open Go Go.Proofs
variable {R : Ending → World → Prop} {g : G} {w : World} {H hp : Hp}

/-- Words as cells. -/
def toks (l : List Tok) : List Value := l.flatMap tokCells
theorem toks_snoc (l : List Tok) (t : Tok) : toks (l ++ [t]) = toks l ++ tokCells t := by simp [toks]
theorem toks_length (l : List Tok) : (toks l).length = l.length * 3 := by
  induction l with
  | nil => rfl
  | cons t l ih =>
    show (tokCells t ++ toks l).length = _
    rw [List.length_append, ih]
    simp [tokCells]
    omega

theorem e34 : (34 : Int) = ((34 : UInt8).toNat : Int) := rfl

theorem word_lt {s : List UInt8} {i : Nat} (hi : i < s.length) : i < (wordS s i).2 ∧ (wordS s i).2 ≤ s.length := by
  have hn := name_le (s := s) (i := i) (by omega)
  unfold wordS
  simp only []
  cases h1 : letterB (peekS s i)
  · cases h2 : digitB (peekS s i)
    · cases h3 : (peekS s i == 39)
      · cases h4 : (peekS s i == 35 && peekS s (i + 1) == 40)
        · cases h5 : (peekS s i == 35)
          · cases h6 : (peekS s i == 58 && peekS s (i + 1) == 61)
            · cases h7 : (peekS s i == 58)
              · cases h8 : Nat.blt i (signS s i)
                · simp only [cond_true, cond_false]
                  cases idx (peekS s i) singleL <;> (simp only []; omega)
                · simp only [cond_true, cond_false]
                  have := sign_le (s := s) (i := i) (by omega)
                  have h9 : i < signS s i := by simpa using h8
                  omega
              · simp only [cond_true, cond_false]; omega
            · simp only [cond_true, cond_false]
              rw [Bool.and_eq_true] at h6
              have := peek_lt h6.2 (by decide)
              omega
          · simp only [cond_true, cond_false]
            have := symbol_le (s := s) (i := i + 1) (by omega)
            omega
        · simp only [cond_true, cond_false]
          rw [Bool.and_eq_true] at h4
          have := peek_lt h4.2 (by decide)
          omega
      · simp only [cond_true, cond_false]
        have := quo_le (s := s) (f := s.length + 1) (i := i + 1) (acc := []) (by omega)
        unfold quotedS
        rw [h3]
        simp only [cond_true]
        omega
    · simp only [cond_true, cond_false]
      have h1 : isAt digitB s i = true := by simp [isAt, peek_get hi, h2]
      have h2 := skip_yes h1
      have h3 := skip_le (p := digitB) (s := s) (i := i + 1) (by omega)
      omega
  · simp only [cond_true]
    have h2 : isAt letterB s i = true := by simp [isAt, peek_get hi, h1]
    have h3 : isAt idB s i = true := by simp [isAt, peek_get hi, h1, idB]
    have h4 := skip_yes h3
    have h5 := skip_le (p := idB) (s := s) (i := i + 1) (by omega)
    have h6 : (nameS s i).2 = skipS idB s i := by unfold nameS; rw [h2]; rfl
    cases hc : colonS s (nameS s i).2
    · simp only [cond_false]; omega
    · have := colon_lt hc
      simp only [cond_true]; omega

theorem c_Read (hW : WholeOK) {s : List UInt8} (hS : Sat g w H) (hlen : s.length ≤ 9223372036854775807)
    (hok : ∀ l g' v w', readS s = .ok l → g.le g' → Sat g' w' H → Sl g' 3 v l.length (toks l) → R (.returned (.tuple #[v, i64 0, i64 0])) w')
    (herr : ∀ (p e : Nat) g' w', readS s = .error (p, e) → g.le g' → Sat g' w' H → R (.returned (.tuple #[.slice none 0 0, i64 (p : Int), i64 (e : Int)])) w') :
    Tr P F.lex_Read [str s] w R := by
  apply t_lex_Read
  unfold d_lex_Read
  have hread : s.length ≤ 4096 → ∀ l, readGo (s.length + 1) s 0 [] = .ok l → readS s = .ok l := by
    intro hs l h
    have hb : Nat.blt 4096 s.length = false := by
      cases hb : Nat.blt 4096 s.length with
      | false => rfl
      | true => rw [Nat.blt_eq] at hb; omega
    unfold readS
    rw [hb, h]
    rfl
  have hbad : s.length ≤ 4096 → ∀ i, readGo (s.length + 1) s 0 [] = .error i → readS s = .error (i, 20) := by
    intro hs l h
    have hb : Nat.blt 4096 s.length = false := by
      cases hb : Nat.blt 4096 s.length with
      | false => rfl
      | true => rw [Nat.blt_eq] at hb; omega
    unfold readS
    rw [hb, h]
    rfl
  obtain ⟨J, hJ⟩ : ∃ J : Nat → Nat → List Value → World → Prop, J = (fun m l vs w => (l = 0 ∧ ∃ (x2 x3 x4 x7 v : Value) (r i0 f : Nat) (acc : List Tok) (g1 : G) (hp : Hp), vs = [x2, x3, x4, ptr r 0, v, x7] ∧ s.length ≤ 4096 ∧ i0 ≤ s.length ∧ m = s.length - i0 ∧ acc.length ≤ i0 ∧ s.length < f + i0 ∧ readGo f s i0 acc = readGo (s.length + 1) s 0 [] ∧
      g.le g1 ∧ Grow 112 3 v acc.length (toks acc) hp ∧ Sat g1 w ((r, rdr s i0) :: (hp ++ H))) ∨
      (l = 1 ∧ ∃ (x2 x3 x4 x5 x6 : Value) (i : Nat) (g1 : G), vs = [x2, x3, x4, x5, x6, i64 (i : Int)] ∧ s.length ≤ 4096 ∧ readGo (s.length + 1) s 0 [] = .error i ∧ g.le g1 ∧ Sat g1 w H)) := ⟨_, rfl⟩
  refine sc_intro J ?_ ?_
  · simp only [↓E1, ↓E2]
    rw [cnd_dec]
    constructor
    · intro h
      refine herr 0 3 g w ?_ (.refl g) hS
      have hb : Nat.blt 4096 s.length = true := by rw [Nat.blt_eq]; omega
      unfold readS
      rw [hb]
      rfl
    intro h
    have hs : s.length ≤ 4096 := by omega
    have hsh : Short s := by unfold Short; omega
    have hread := hread hs
    have hbad := hbad hs
    refine bdI (cs := [str s, i64 0]) rfl ?_
    refine hS.al fun r w1 h1 => ?_
    have h1 : Sat g w1 ((r, rdr s 0) :: ([] ++ H)) := h1
    have hg : Grow 112 3 (.slice none 0 0) ([] : List Tok).length (toks []) [] := .nil
    obtain ⟨f, i0, acc, g1, hp, v, hf0, hi00, hacc, hg10, hp0, hv0⟩ : ∃ (f i0 : Nat) (acc : List Tok) (g1 : G) (hp : Hp) (v : Value), f = s.length + 1 ∧ i0 = 0 ∧ acc = [] ∧ g1 = g ∧ hp = [] ∧ v = .slice none 0 0 := ⟨_, _, _, _, _, _, rfl, rfl, rfl, rfl, rfl, rfl⟩
    have hi0 : i0 ≤ s.length := by omega
    have hal : acc.length ≤ i0 := by rw [hacc]; simp
    have hfl : s.length < f + i0 := by omega
    have hf : readGo f s i0 acc = readGo (s.length + 1) s 0 [] := by rw [hf0, hi00, hacc]
    have hg1 : g.le g1 := by rw [hg10]; exact .refl g
    rw [← hi00, ← hp0, ← hg10] at h1
    rw [← hacc, ← hv0, ← hp0] at hg
    rw [← hv0]
    have hsk := skip_le (p := blankB) (s := s) (i := i0) hi0
    refine c_skip hsh hi0 h1 p_blank fun w2 h2 => ?_
    obtain ⟨i, hi⟩ : ∃ i, skipS blankB s i0 = i := ⟨_, rfl⟩
    rw [hi] at h2 hsk
    obtain ⟨f, rfl⟩ : ∃ f', f = f' + 1 := ⟨f - 1, by omega⟩
    have hstep : readGo (f + 1) s i0 acc = bif Nat.beq i s.length then .ok (acc ++ [⟨0, [], i⟩])
      else bif peekS s i == 34 then (match idx 34 (s.drop (i + 1)) with | none => .error i | some k => readGo f s (i + (k + 2)) acc)
      else bif (wordS s i).1.2 then readGo f s (wordS s i).2 (acc ++ [(wordS s i).1.1]) else .error i := by
      rw [← hi]; rfl
    rw [hstep] at hf
    simp only [↓E1, ↓E2, ↓E3, ↓h2.ld0, Nat.reduceAdd, Nat.reduceLT]
    rw [cnd_dec]
    constructor
    · intro he
      have he : i = s.length := by omega
      have hb : Nat.beq i s.length = true := by rw [he]; exact Nat.beq_refl _
      rw [hb] at hf
      simp only [cond_true] at hf
      refine bdI (cs := tokCells ⟨0, [], i⟩) rfl ?_
      refine h2.bs (cs := tokCells ⟨0, [], i⟩) rfl fun b2 w3 h3 => ?_
      have h4 : Sat g1 w3 ((b2, .cells (tokCells ⟨0, [], i⟩).toArray 112) :: (hp ++ ((r, rdr s i) :: H))) := h3.perm (.cons _ List.perm_middle.symm)
      refine Sat.ap1 (m := 1) (c := 1) h4 hg rfl rfl rfl (by omega) (by omega) fun v' hp2 w5 hg5 h5 => ?_
      obtain ⟨g2, hg2, h6, hsl⟩ := hg5.freeze h5
      refine hok (acc ++ [⟨0, [], i⟩]) g2 v' w5 (hread _ hf.symm) (hg1.trans hg2) h6.tail ?_
      have := toks_snoc acc ⟨0, [], i⟩
      rw [this]
      simpa using hsl
    · intro he
      have he : i < s.length := by omega
      have hb : Nat.beq i s.length = false := by
        cases h : Nat.beq i s.length with
        | false => rfl
        | true => have := Nat.eq_of_beq_eq_true h; omega
      rw [hb] at hf
      simp only [cond_false] at hf
      refine ⟨by omega, peekS s i, by simpa using peek_get he, ?_⟩
      rw [e34, byt_eq, cnd_eq]
      constructor
      · intro hq
        rw [hq] at hf
        simp only [cond_true] at hf
        rw [wrap64_succ (by omega), sl_lo]
        refine ⟨by omega, by omega, ?_⟩
        have hdr : (List.drop ((i + 1 : Nat) : Int).toNat s) = s.drop (i + 1) := rfl
        rw [hdr]
        apply c_indexByte
        simp only [↓E1, ↓E2, ↓E3]
        rw [cnd_dec]
        cases hix : idx 34 (s.drop (i + 1)) with
        | none =>
          rw [hix] at hf
          constructor
          · intro _
            exact ⟨0, by rw [hJ]; exact .inr ⟨rfl, _, _, _, _, _, i, g1, rfl, hs, hf.symm, hg1, Sat.drop (A := (r, _) :: hp) h2⟩⟩
          · intro h
            simp [idxI] at h
        | some k =>
          rw [hix] at hf
          have hk := (idxGo_some hix).2
          rw [List.length_drop] at hk
          constructor
          · intro h
            simp [idxI] at h
            omega
          · intro _
            simp only [↓h2.ld0, idxI, Nat.reduceAdd, Nat.reduceLT, ↓E1, ↓E3]
            rw [wrap64_two (by omega), wrap64_nat (by omega)]
            refine h2.st rfl (by simp) rfl fun w5 h5 => ?_
            have h5 : Sat g1 w5 ((r, rdr s (i + (k + 2))) :: (hp ++ H)) := h5
            exact ⟨s.length - (i + (k + 2)), by rw [hJ]; exact .inl ⟨rfl, _, _, _, _, _, r, i + (k + 2), f, acc, g1, hp, rfl, hs, by omega, rfl, by omega, by omega, hf, hg1, hg, h5⟩⟩
      · intro hq
        rw [hq] at hf
        simp only [cond_false] at hf
        have hwl := word_lt he
        refine c_word hW hs he h2 fun g2 w5 hg2 h5 => ?_
        simp only [↓E1, ↓E2, ↓E3, List.getElem?_toArray]
        refine h5.al fun b9 w6 h6 => ?_
        refine h6.st (c := [i64 0, str [], i64 0]) rfl (by simp) rfl fun w7 h7 => ?_
        have h7 : Sat g2 w7 ((b9, .cells (tokCells (wordS s i).1.1).toArray 112) :: (r, rdr s (wordS s i).2) :: (hp ++ H)) := h7
        rw [cnd_eq]
        constructor
        · intro hwok
          rw [hwok] at hf
          simp only [cond_true] at hf
          refine h7.ldn0 (c := tokCells (wordS s i).1.1) rfl ?_
          refine h7.bs (cs := tokCells (wordS s i).1.1) rfl fun b2 w8 h8 => ?_
          have h8 : Sat g2 w8 ((b2, .cells (tokCells (wordS s i).1.1).toArray 112) :: (r, rdr s (wordS s i).2) :: (hp ++ H)) :=
            (h8.perm (List.Perm.swap _ _ _)).tail
          have h9 : Sat g2 w8 ((b2, .cells (tokCells (wordS s i).1.1).toArray 112) :: (hp ++ ((r, rdr s (wordS s i).2) :: H))) := h8.perm (.cons _ List.perm_middle.symm)
          refine Sat.ap1 (m := 1) (c := 1) h9 hg rfl rfl rfl (by omega) (by omega) fun v' hp2 w10 hg10 h10 => ?_
          have h10 : Sat g2 w10 ((r, rdr s (wordS s i).2) :: (hp2 ++ H)) := h10.perm List.perm_middle
          have hg10 : Grow 112 3 v' (acc ++ [(wordS s i).1.1]).length (toks (acc ++ [(wordS s i).1.1])) hp2 := by
            rw [toks_snoc]; simpa using hg10
          try simp only [↓E3]
          exact ⟨s.length - (wordS s i).2, by rw [hJ]; exact .inl ⟨rfl, _, _, _, _, v', r, (wordS s i).2, f, acc ++ [(wordS s i).1.1], g2, hp2, rfl, hs, by omega, rfl, by simp; omega, by omega, hf, hg1.trans hg2, hg10, h10⟩⟩
        · intro hwok
          rw [hwok] at hf
          simp only [cond_false] at hf
          rw [hv0]
          refine herr i 20 g2 w7 (hbad _ hf.symm) (hg1.trans hg2) ?_
          exact Sat.drop (A := (b9, _) :: (r, _) :: hp) h7
  · intro p hp m
    simp only [List.mem_cons, List.not_mem_nil, or_false] at hp
    rcases hp with rfl | rfl
    · intro x2 x3 x4 x5 x6 x7 w1 hJ2
      rw [hJ] at hJ2
      rcases hJ2 with ⟨_, x2, x3, x4, x7, v, r, i0, f, acc, g1, hp, he, hs, hi0, rfl, hal, hfl, hf, hg1, hg, h1⟩ | ⟨h, _⟩
      · simp only [List.cons.injEq, and_true] at he
        obtain ⟨rfl, rfl, rfl, rfl, rfl, rfl⟩ := he
        have hsh : Short s := by unfold Short; omega
        have hread := hread hs
        have hbad := hbad hs
        have hsk := skip_le (p := blankB) (s := s) (i := i0) hi0
        refine c_skip hsh hi0 h1 p_blank fun w2 h2 => ?_
        obtain ⟨i, hi⟩ : ∃ i, skipS blankB s i0 = i := ⟨_, rfl⟩
        rw [hi] at h2 hsk
        obtain ⟨f, rfl⟩ : ∃ f', f = f' + 1 := ⟨f - 1, by omega⟩
        have hstep : readGo (f + 1) s i0 acc = bif Nat.beq i s.length then .ok (acc ++ [⟨0, [], i⟩])
          else bif peekS s i == 34 then (match idx 34 (s.drop (i + 1)) with | none => .error i | some k => readGo f s (i + (k + 2)) acc)
          else bif (wordS s i).1.2 then readGo f s (wordS s i).2 (acc ++ [(wordS s i).1.1]) else .error i := by
          rw [← hi]; rfl
        rw [hstep] at hf
        simp only [↓E1, ↓E2, ↓E3, ↓h2.ld0, Nat.reduceAdd, Nat.reduceLT]
        rw [cnd_dec]
        constructor
        · intro he
          have he : i = s.length := by omega
          have hb : Nat.beq i s.length = true := by rw [he]; exact Nat.beq_refl _
          rw [hb] at hf
          simp only [cond_true] at hf
          refine bdI (cs := tokCells ⟨0, [], i⟩) rfl ?_
          refine h2.bs (cs := tokCells ⟨0, [], i⟩) rfl fun b2 w3 h3 => ?_
          have h4 : Sat g1 w3 ((b2, .cells (tokCells ⟨0, [], i⟩).toArray 112) :: (hp ++ ((r, rdr s i) :: H))) := h3.perm (.cons _ List.perm_middle.symm)
          refine Sat.ap1 (m := 1) (c := 1) h4 hg rfl rfl rfl (by omega) (by omega) fun v' hp2 w5 hg5 h5 => ?_
          obtain ⟨g2, hg2, h6, hsl⟩ := hg5.freeze h5
          refine hok (acc ++ [⟨0, [], i⟩]) g2 v' w5 (hread _ hf.symm) (hg1.trans hg2) h6.tail ?_
          have := toks_snoc acc ⟨0, [], i⟩
          rw [this]
          simpa using hsl
        · intro he
          have he : i < s.length := by omega
          have hb : Nat.beq i s.length = false := by
            cases h : Nat.beq i s.length with
            | false => rfl
            | true => have := Nat.eq_of_beq_eq_true h; omega
          rw [hb] at hf
          simp only [cond_false] at hf
          refine ⟨by omega, peekS s i, by simpa using peek_get he, ?_⟩
          rw [e34, byt_eq, cnd_eq]
          constructor
          · intro hq
            rw [hq] at hf
            simp only [cond_true] at hf
            rw [wrap64_succ (by omega), sl_lo]
            refine ⟨by omega, by omega, ?_⟩
            have hdr : (List.drop ((i + 1 : Nat) : Int).toNat s) = s.drop (i + 1) := rfl
            rw [hdr]
            apply c_indexByte
            simp only [↓E1, ↓E2, ↓E3]
            rw [cnd_dec]
            cases hix : idx 34 (s.drop (i + 1)) with
            | none =>
              rw [hix] at hf
              constructor
              · intro _
                exact ⟨0, by omega, by rw [hJ]; exact .inr ⟨rfl, _, _, _, _, _, i, g1, rfl, hs, hf.symm, hg1, Sat.drop (A := (r, _) :: hp) h2⟩⟩
              · intro h
                simp [idxI] at h
            | some k =>
              rw [hix] at hf
              have hk := (idxGo_some hix).2
              rw [List.length_drop] at hk
              constructor
              · intro h
                simp [idxI] at h
                omega
              · intro _
                simp only [↓h2.ld0, idxI, Nat.reduceAdd, Nat.reduceLT, ↓E1, ↓E3]
                rw [wrap64_two (by omega), wrap64_nat (by omega)]
                refine h2.st rfl (by simp) rfl fun w5 h5 => ?_
                have h5 : Sat g1 w5 ((r, rdr s (i + (k + 2))) :: (hp ++ H)) := h5
                exact ⟨s.length - (i + (k + 2)), by omega, by rw [hJ]; exact .inl ⟨rfl, _, _, _, _, _, r, i + (k + 2), f, acc, g1, hp, rfl, hs, by omega, rfl, by omega, by omega, hf, hg1, hg, h5⟩⟩
          · intro hq
            rw [hq] at hf
            simp only [cond_false] at hf
            have hwl := word_lt he
            refine c_word hW hs he h2 fun g2 w5 hg2 h5 => ?_
            simp only [↓E1, ↓E2, ↓E3, List.getElem?_toArray]
            refine h5.al fun b9 w6 h6 => ?_
            refine h6.st (c := [i64 0, str [], i64 0]) rfl (by simp) rfl fun w7 h7 => ?_
            have h7 : Sat g2 w7 ((b9, .cells (tokCells (wordS s i).1.1).toArray 112) :: (r, rdr s (wordS s i).2) :: (hp ++ H)) := h7
            rw [cnd_eq]
            constructor
            · intro hwok
              rw [hwok] at hf
              simp only [cond_true] at hf
              refine h7.ldn0 (c := tokCells (wordS s i).1.1) rfl ?_
              refine h7.bs (cs := tokCells (wordS s i).1.1) rfl fun b2 w8 h8 => ?_
              have h8 : Sat g2 w8 ((b2, .cells (tokCells (wordS s i).1.1).toArray 112) :: (r, rdr s (wordS s i).2) :: (hp ++ H)) :=
                (h8.perm (List.Perm.swap _ _ _)).tail
              have h9 : Sat g2 w8 ((b2, .cells (tokCells (wordS s i).1.1).toArray 112) :: (hp ++ ((r, rdr s (wordS s i).2) :: H))) := h8.perm (.cons _ List.perm_middle.symm)
              refine Sat.ap1 (m := 1) (c := 1) h9 hg rfl rfl rfl (by omega) (by omega) fun v' hp2 w10 hg10 h10 => ?_
              have h10 : Sat g2 w10 ((r, rdr s (wordS s i).2) :: (hp2 ++ H)) := h10.perm List.perm_middle
              have hg10 : Grow 112 3 v' (acc ++ [(wordS s i).1.1]).length (toks (acc ++ [(wordS s i).1.1])) hp2 := by
                rw [toks_snoc]; simpa using hg10
              try simp only [↓E3]
              exact ⟨s.length - (wordS s i).2, by omega, by rw [hJ]; exact .inl ⟨rfl, _, _, _, _, v', r, (wordS s i).2, f, acc ++ [(wordS s i).1.1], g2, hp2, rfl, hs, by omega, rfl, by simp; omega, by omega, hf, hg1.trans hg2, hg10, h10⟩⟩
            · intro hwok
              rw [hwok] at hf
              simp only [cond_false] at hf
              refine herr i 20 g2 w7 (hbad _ hf.symm) (hg1.trans hg2) ?_
              exact Sat.drop (A := (b9, _) :: (r, _) :: hp) h7
      · simp at h
    · intro x2 x3 x4 x5 x6 x7 w1 hJ2
      rw [hJ] at hJ2
      rcases hJ2 with ⟨h, _⟩ | ⟨_, x2, x3, x4, x5, x6, i, g1, he, hs, hf, hg1, h1⟩
      · simp at h
      · simp only [List.cons.injEq, and_true] at he
        obtain ⟨rfl, rfl, rfl, rfl, rfl, rfl⟩ := he
        exact herr i 20 g1 w1 (hbad hs _ hf) hg1 h1
end Go.Vx
namespace Go.Vx

inductive Node where
  | mk (kind : Nat) (text : List UInt8) (pos n : Nat) (names : List (List UInt8)) (kids : List Node)

namespace Node
def kind : Node → Nat | mk k _ _ _ _ _ => k
def text : Node → List UInt8 | mk _ t _ _ _ _ => t
def pos : Node → Nat | mk _ _ p _ _ _ => p
def n : Node → Nat | mk _ _ _ n _ _ => n
def names : Node → List (List UInt8) | mk _ _ _ _ x _ => x
def kids : Node → List Node | mk _ _ _ _ _ x => x
end Node
def nod0 : Node := .mk 0 [] 0 0 [] []

inductive Res (α : Type) where
  | out
  | bad (p e : Nat)
  | ok (a : α) (l : List Tok)

def Res.andThen {α β : Type} (r : Res α) (k : α → List Tok → Res β) : Res β :=
  match r with
  | .out => .out
  | .bad p e => .bad p e
  | .ok a l => k a l

def hd (l : List Tok) : Tok := l.headD ⟨0, [], 0⟩
def kd (l : List Tok) : Nat := (hd l).kind
def tk (l : List Tok) : List Tok := bif Nat.beq (kd l) 0 then l else l.tail
def syn {α : Type} (l : List Tok) : Res α := .bad (hd l).pos 20
def needS (k : Nat) (l : List Tok) : Res Tok := bif Nat.beq (kd l) k then .ok (hd l) (tk l) else syn l
/-- One deeper, over a word. -/
def within {α : Type} (d : Nat) (l : List Tok) (k : Nat → List Tok → Res α) : Res α := bif Nat.beq d 40 then .bad (hd l).pos 3 else k (d + 1) (tk l)

def trueT : List UInt8 := [116, 114, 117, 101]
def falseT : List UInt8 := [102, 97, 108, 115, 101]
def nilT : List UInt8 := [110, 105, 108]
def leaf (k : Nat) (l : List Tok) : Res Node := .ok (.mk k (hd l).text (hd l).pos 0 [] []) (tk l)
def sendN (n m : Node) : Node := .mk 7 m.text m.pos 0 [] (n :: m.kids)
def addKid (n k : Node) : Node := .mk n.kind n.text n.pos n.n n.names (n.kids ++ [k])
def addName (n : Node) (t : List UInt8) : Node := .mk n.kind n.text n.pos n.n (n.names ++ [t]) n.kids

mutual
def expr : Nat → Nat → List Tok → Res Node
  | 0, _, _ => .out
  | f + 1, d, l => bif Nat.beq (kd l) 1 && Nat.beq (kd l.tail) 7 then
      within d (tk l) fun d l1 => (expr f d l1).andThen fun e l2 => .ok (.mk 6 (hd l).text (hd l).pos 0 [] [e]) l2
    else casc f d l
def casc : Nat → Nat → List Tok → Res Node
  | 0, _, _ => .out
  | f + 1, d, l => (keyed f d l).andThen fun np l1 =>
      bif Nat.beq (kd l1) 15 then
        (bif Nat.beq np.1.kind 7 && np.2 then cascL f d np.1.pos [np.1.kids.headD nod0, .mk 9 np.1.text np.1.pos 0 [] np.1.kids.tail] l1 else syn l1)
      else .ok np.1 l1
def cascL : Nat → Nat → Nat → List Node → List Tok → Res Node
  | 0, _, _, _, _ => .out
  | f + 1, d, pos, kids, l => bif Nat.beq (kd l) 15 then (msg f d (tk l)).andThen fun m l1 => cascL f d pos (kids ++ [m]) l1
      else .ok (.mk 8 [] pos 0 [] kids) l
def msg : Nat → Nat → List Tok → Res Node
  | 0, _, _ => .out
  | f + 1, d, l =>
    bif Nat.beq (kd l) 1 then .ok (.mk 9 (hd l).text (hd l).pos 0 [] []) (tk l)
    else bif Nat.beq (kd l) 3 then (unary f d (tk l)).andThen fun np l1 => .ok (.mk 9 (hd l).text (hd l).pos 0 [] [np.1]) l1
    else bif Nat.beq (kd l) 2 then msgL f d (hd l).pos [] [] l
    else syn l
def msgL : Nat → Nat → Nat → List UInt8 → List Node → List Tok → Res Node
  | 0, _, _, _, _, _ => .out
  | f + 1, d, pos, text, kids, l => bif Nat.beq (kd l) 2 then (binary f d (tk l)).andThen fun np l1 => msgL f d pos (text ++ (hd l).text) (kids ++ [np.1]) l1
      else .ok (.mk 9 text pos 0 [] kids) l
def chainL : Nat → Nat → Nat → Bool → Node → Bool → List Tok → Res (Node × Bool)
  | 0, _, _, _, _, _, _ => .out
  | f + 1, d, k, once, n, plain, l => bif Nat.beq (kd l) k then
      (msg f d l).andThen fun m l1 => bif once then .ok (sendN n m, true) l1 else chainL f d k once (sendN n m) true l1
    else .ok (n, plain) l
def keyed : Nat → Nat → List Tok → Res (Node × Bool)
  | 0, _, _ => .out
  | f + 1, d, l => (binary f d l).andThen fun np l1 => chainL f d 2 true np.1 np.2 l1
def binary : Nat → Nat → List Tok → Res (Node × Bool)
  | 0, _, _ => .out
  | f + 1, d, l => (unary f d l).andThen fun np l1 => chainL f d 3 false np.1 np.2 l1
def unary : Nat → Nat → List Tok → Res (Node × Bool)
  | 0, _, _ => .out
  | f + 1, d, l => (prim f d l).andThen fun np l1 => chainL f d 1 false np.1 np.2 l1
def prim : Nat → Nat → List Tok → Res (Node × Bool)
  | 0, _, _ => .out
  | f + 1, d, l =>
    let lf (k : Nat) : Res (Node × Bool) := (leaf k l).andThen fun n l1 => .ok (n, true) l1
    bif Nat.beq (kd l) 1 then lf 5
    else bif Nat.beq (kd l) 4 then lf 1
    else bif Nat.beq (kd l) 5 then lf 2
    else bif Nat.beq (kd l) 6 then lf 3
    else bif Nat.beq (kd l) 17 then (lst f d l).andThen fun n l1 => .ok (n, true) l1
    else bif Nat.beq (kd l) 10 then (blk f d l).andThen fun n l1 => .ok (n, true) l1
    else bif Nat.beq (kd l) 8 then within d l fun d l1 => (expr f d l1).andThen fun e l2 => (needS 9 l2).andThen fun _ l3 => .ok (e, false) l3
    else syn l
def lst : Nat → Nat → List Tok → Res Node
  | 0, _, _ => .out
  | f + 1, d, l => within d l fun d l1 => lstL f d (hd l).pos [] l1
def lstL : Nat → Nat → Nat → List Node → List Tok → Res Node
  | 0, _, _, _, _ => .out
  | f + 1, d, pos, kids, l => bif Nat.beq (kd l) 9 then .ok (.mk 4 [] pos 0 [] kids) (tk l)
      else (elem f d l).andThen fun e l1 => lstL f d pos (kids ++ [e]) l1
def elem : Nat → Nat → List Tok → Res Node
  | 0, _, _ => .out
  | f + 1, d, l =>
    bif Nat.beq (kd l) 17 || Nat.beq (kd l) 8 then lst f d l
    else bif Nat.beq (kd l) 4 then leaf 1 l
    else bif Nat.beq (kd l) 5 then leaf 2 l
    else bif Nat.beq (kd l) 1 then leaf (bif (hd l).text == trueT || ((hd l).text == falseT || (hd l).text == nilT) then 13 else 3) l
    else bif Nat.beq (kd l) 6 || (Nat.beq (kd l) 2 || Nat.beq (kd l) 3) then leaf 3 l
    else syn l
def blk : Nat → Nat → List Tok → Res Node
  | 0, _, _ => .out
  | f + 1, d, l => within d l fun d l1 => blkN f d (hd l).pos [] l1
def blkN : Nat → Nat → Nat → List (List UInt8) → List Tok → Res Node
  | 0, _, _, _, _ => .out
  | f + 1, d, pos, names, l => bif Nat.beq (kd l) 16 then (needS 1 (tk l)).andThen fun t l1 => blkN f d pos (names ++ [t.text]) l1
      else bif Nat.blt 0 names.length && !Nat.beq (kd l) 11 then
        (needS 12 l).andThen fun _ l1 => (body f d 11 (.mk 10 [] pos names.length names []) l1).andThen fun n l2 => .ok n (tk l2)
      else (body f d 11 (.mk 10 [] pos names.length names []) l).andThen fun n l2 => .ok n (tk l2)
def body : Nat → Nat → Nat → Node → List Tok → Res Node
  | 0, _, _, _, _ => .out
  | f + 1, d, k, n, l => bif Nat.beq (kd l) 12 then bodyN f d k n (tk l) else bodyL f d k n l
def bodyN : Nat → Nat → Nat → Node → List Tok → Res Node
  | 0, _, _, _, _ => .out
  | f + 1, d, k, n, l => bif Nat.beq (kd l) 1 then bodyN f d k (addName n (hd l).text) (tk l)
      else (needS 12 l).andThen fun _ l1 => bodyL f d k n l1
def bodyL : Nat → Nat → Nat → Node → List Tok → Res Node
  | 0, _, _, _, _ => .out
  | f + 1, d, k, n, l => bif Nat.beq (kd l) k then .ok n l
      else (stmt f d l).andThen fun kl l1 =>
        bif Nat.beq (kd l1) 14 && !kl.2 then bodyL f d k (addKid n kl.1) (tk l1)
        else
          let l2 := bif Nat.beq (kd l1) 14 then tk l1 else l1
          bif Nat.beq (kd l2) k then .ok (addKid n kl.1) l2 else syn l2
def stmt : Nat → Nat → List Tok → Res (Node × Bool)
  | 0, _, _ => .out
  | f + 1, d, l => bif Nat.beq (kd l) 13 then (expr f d (tk l)).andThen fun e l1 => .ok (.mk 11 [] (hd l).pos 0 [] [e], true) l1
      else (expr f d l).andThen fun e l1 => .ok (e, false) l1
end

def fuelOf (l : List Tok) : Nat := 20 * l.length + 40
/-- A method's pattern, behind its first word. -/
def patL : Nat → List UInt8 → List (List UInt8) → List Tok → Res (List UInt8 × List (List UInt8))
  | 0, _, _, _ => .out
  | f + 1, text, names, l => bif Nat.beq (kd l) 2 then (needS 1 (tk l)).andThen fun t l1 => patL f (text ++ (hd l).text) (names ++ [t.text]) l1
      else .ok (text, names) l
def patS (l : List Tok) : Res Node :=
  let done (x : List UInt8 × List (List UInt8)) (l1 : List Tok) : Res Node := .ok (.mk 12 x.1 0 x.2.length x.2 []) l1
  bif Nat.beq (kd l) 1 then done ((hd l).text, []) (tk l)
  else bif Nat.beq (kd l) 3 then (needS 1 (tk l)).andThen fun t l1 => done ((hd l).text, [t.text]) l1
  else bif Nat.beq (kd l) 2 then (needS 1 (tk l)).andThen fun t l1 => (patL (l1.length + 1) (hd l).text [t.text] l1).andThen done
  else syn l
def unitS (s : List UInt8) (head : List Tok → Res Node) : Except (Nat × Nat) Node :=
  match readS s with
  | .error x => .error x
  | .ok l => match (head l).andThen fun n l1 => body (fuelOf l) 0 0 n l1 with
    | .ok n _ => .ok n
    | .bad p e => .error (p, e)
    | .out => .error (0, 0)
def parseS (s : List UInt8) : Except (Nat × Nat) Node := unitS s fun l => .ok (.mk 12 [] 0 0 [] []) l
def methodS (s : List UInt8) : Except (Nat × Nat) Node := unitS s patS
end Go.Vx
namespace Go.Vx

theorem andThen_ok {α β : Type} {r : Res α} {k : α → List Tok → Res β} {b : β} {l' : List Tok} (h : r.andThen k = .ok b l') : ∃ a l1, r = .ok a l1 ∧ k a l1 = .ok b l' := by
  cases r with
  | out => simp [Res.andThen] at h
  | bad p e => simp [Res.andThen] at h
  | ok a l => exact ⟨a, l, rfl, h⟩

theorem cond_or {α : Type} {c : Bool} {x y z : α} (h : (bif c then x else y) = z) : (c = true ∧ x = z) ∨ (c = false ∧ y = z) := by
  cases c
  · exact .inr ⟨rfl, h⟩
  · exact .inl ⟨rfl, h⟩

theorem tk_le (l : List Tok) : (tk l).length ≤ l.length := by
  unfold tk
  cases Nat.beq (kd l) 0
  · simp
  · exact Nat.le_refl _

theorem tk_lt {l : List Tok} {k : Nat} (h : Nat.beq (kd l) k = true) (hk : k ≠ 0) : (tk l).length < l.length := by
  have h := Nat.eq_of_beq_eq_true h
  unfold tk
  have hb : Nat.beq (kd l) 0 = false := by
    cases hb : Nat.beq (kd l) 0 with
    | false => rfl
    | true => have := Nat.eq_of_beq_eq_true hb; omega
  rw [hb]
  cases l with
  | nil => simp [kd, hd] at h; omega
  | cons t l => simp

def SendOK (n : Node) : Prop := n.kind = 7 → n.kids ≠ []

theorem need_ok {k : Nat} {l : List Tok} {t : Tok} {l' : List Tok} (h : needS k l = .ok t l') : Nat.beq (kd l) k = true ∧ t = hd l ∧ l' = tk l := by
  unfold needS at h
  rcases cond_or h with ⟨h1, h2⟩ | ⟨_, h2⟩
  · injection h2 with h2 h3
    exact ⟨h1, h2.symm, h3.symm⟩
  · simp [syn] at h2

theorem within_ok {α : Type} {d : Nat} {l : List Tok} {k : Nat → List Tok → Res α} {a : α} {l' : List Tok} (h : within d l k = .ok a l') : Nat.beq d 40 = false ∧ k (d + 1) (tk l) = .ok a l' := by
  unfold within at h
  rcases cond_or h with ⟨_, h2⟩ | ⟨h1, h2⟩
  · simp at h2
  · exact ⟨h1, h2⟩

structure Prog (f : Nat) : Prop where
  expr : ∀ {d l n l'}, expr f d l = .ok n l' → l'.length < l.length ∧ SendOK n
  casc : ∀ {d l n l'}, casc f d l = .ok n l' → l'.length < l.length ∧ SendOK n
  cascL : ∀ {d p ks l n l'}, cascL f d p ks l = .ok n l' → l'.length ≤ l.length ∧ SendOK n
  msg : ∀ {d l n l'}, msg f d l = .ok n l' → l'.length < l.length
  msgL : ∀ {d p t ks l n l'}, msgL f d p t ks l = .ok n l' → l'.length ≤ l.length ∧ (Nat.beq (kd l) 2 = true → l'.length < l.length)
  chainL : ∀ {d k o n p l x l'}, chainL f d k o n p l = .ok x l' → SendOK n → l'.length ≤ l.length ∧ SendOK x.1
  keyed : ∀ {d l x l'}, keyed f d l = .ok x l' → l'.length < l.length ∧ SendOK x.1
  binary : ∀ {d l x l'}, binary f d l = .ok x l' → l'.length < l.length ∧ SendOK x.1
  unary : ∀ {d l x l'}, unary f d l = .ok x l' → l'.length < l.length ∧ SendOK x.1
  prim : ∀ {d l x l'}, prim f d l = .ok x l' → l'.length < l.length ∧ SendOK x.1
  lst : ∀ {d l n l'}, lst f d l = .ok n l' → l'.length < l.length ∧ SendOK n
  lstL : ∀ {d p ks l n l'}, lstL f d p ks l = .ok n l' → l'.length < l.length ∧ SendOK n
  elem : ∀ {d l n l'}, elem f d l = .ok n l' → l'.length < l.length ∧ SendOK n
  blk : ∀ {d l n l'}, blk f d l = .ok n l' → Nat.beq (kd l) 10 = true → l'.length < l.length ∧ SendOK n
  blkN : ∀ {d p ns l n l'}, blkN f d p ns l = .ok n l' → l'.length ≤ l.length ∧ n.kind = 10
  body : ∀ {d k n l n' l'}, body f d k n l = .ok n' l' → l'.length ≤ l.length ∧ n'.kind = n.kind
  bodyN : ∀ {d k n l n' l'}, bodyN f d k n l = .ok n' l' → l'.length ≤ l.length ∧ n'.kind = n.kind
  bodyL : ∀ {d k n l n' l'}, bodyL f d k n l = .ok n' l' → l'.length ≤ l.length ∧ n'.kind = n.kind
  stmt : ∀ {d l x l'}, stmt f d l = .ok x l' → l'.length < l.length ∧ SendOK x.1

theorem sendOK_of {k : Nat} {t : List UInt8} {p n : Nat} {ns : List (List UInt8)} {ks : List Node} (h : k ≠ 7) : SendOK (.mk k t p n ns ks) := fun e => absurd e h

theorem leaf_ok {k j : Nat} {l : List Tok} {n : Node} {l' : List Tok} (h : leaf k l = .ok n l') (hj : Nat.beq (kd l) j = true) (h0 : j ≠ 0) (hk : k ≠ 7) : l'.length < l.length ∧ SendOK n := by
  unfold leaf at h
  injection h with h1 h2
  subst h1 h2
  exact ⟨tk_lt hj h0, sendOK_of hk⟩

theorem prog : ∀ f, Prog f := by
  intro f
  induction f with
  | zero => constructor <;> intros <;> simp_all [expr, casc, cascL, msg, msgL, chainL, keyed, binary, unary, prim, lst, lstL, elem, blk, blkN, body, bodyN, bodyL, stmt]
  | succ f ih =>
    constructor
    · intro d l n l' h
      simp only [expr] at h
      rcases cond_or h with ⟨h1, h2⟩ | ⟨_, h2⟩
      · rw [Bool.and_eq_true] at h1
        obtain ⟨_, h3⟩ := within_ok h2
        obtain ⟨e, l2, h4, h5⟩ := andThen_ok h3
        injection h5 with h5 h6
        subst h5 h6
        have := (ih.expr h4).1
        have h7 := tk_lt h1.1 (by decide)
        have h8 := tk_le (tk l)
        exact ⟨by omega, sendOK_of (by decide)⟩
      · exact ih.casc h2
    · intro d l n l' h
      simp only [casc] at h
      obtain ⟨x, l1, h1, h2⟩ := andThen_ok h
      have h3 := ih.keyed h1
      rcases cond_or h2 with ⟨_, h4⟩ | ⟨_, h4⟩
      · rcases cond_or h4 with ⟨_, h5⟩ | ⟨_, h5⟩
        · have := ih.cascL h5
          exact ⟨by omega, this.2⟩
        · simp [syn] at h5
      · injection h4 with h4 h5
        subst h4 h5
        exact h3
    · intro d p ks l n l' h
      simp only [cascL] at h
      rcases cond_or h with ⟨h1, h2⟩ | ⟨_, h2⟩
      · obtain ⟨m, l1, h3, h4⟩ := andThen_ok h2
        have h5 := ih.msg h3
        have h6 := ih.cascL h4
        have h7 := tk_le l
        exact ⟨by omega, h6.2⟩
      · injection h2 with h2 h3
        subst h2 h3
        exact ⟨Nat.le_refl _, sendOK_of (by decide)⟩
    · intro d l n l' h
      simp only [msg] at h
      rcases cond_or h with ⟨h1, h2⟩ | ⟨_, h2⟩
      · injection h2 with h2 h3
        subst h3
        exact tk_lt h1 (by decide)
      · rcases cond_or h2 with ⟨h1, h2⟩ | ⟨_, h2⟩
        · obtain ⟨x, l1, h3, h4⟩ := andThen_ok h2
          injection h4 with h4 h5
          subst h5
          have := (ih.unary h3).1
          have h7 := tk_le l
          omega
        · rcases cond_or h2 with ⟨h1, h2⟩ | ⟨_, h2⟩
          · exact (ih.msgL h2).2 h1
          · simp [syn] at h2
    · intro d p t ks l n l' h
      simp only [msgL] at h
      rcases cond_or h with ⟨h1, h2⟩ | ⟨h1, h2⟩
      · obtain ⟨x, l1, h3, h4⟩ := andThen_ok h2
        have h5 := (ih.binary h3).1
        have h6 := (ih.msgL h4).1
        have h7 := tk_le l
        exact ⟨by omega, fun _ => by omega⟩
      · injection h2 with h2 h3
        subst h3
        exact ⟨Nat.le_refl _, fun h => by rw [h] at h1; simp at h1⟩
    · intro d k o n p l x l' h hs
      simp only [chainL] at h
      rcases cond_or h with ⟨h1, h2⟩ | ⟨h1, h2⟩
      · obtain ⟨m, l1, h3, h4⟩ := andThen_ok h2
        have h5 := ih.msg h3
        rcases cond_or h4 with ⟨_, h6⟩ | ⟨_, h6⟩
        · injection h6 with h6 h7
          subst h6 h7
          exact ⟨by omega, fun _ => by simp [sendN, Node.kids]⟩
        · have := ih.chainL h6 (fun _ => by simp [sendN, Node.kids])
          exact ⟨by omega, this.2⟩
      · injection h2 with h2 h3
        subst h2 h3
        exact ⟨Nat.le_refl _, hs⟩
    · intro d l x l' h
      simp only [keyed] at h
      obtain ⟨y, l1, h1, h2⟩ := andThen_ok h
      have h3 := ih.binary h1
      have h4 := ih.chainL h2 h3.2
      exact ⟨by omega, h4.2⟩
    · intro d l x l' h
      simp only [binary] at h
      obtain ⟨y, l1, h1, h2⟩ := andThen_ok h
      have h3 := ih.unary h1
      have h4 := ih.chainL h2 h3.2
      exact ⟨by omega, h4.2⟩
    · intro d l x l' h
      simp only [unary] at h
      obtain ⟨y, l1, h1, h2⟩ := andThen_ok h
      have h3 := ih.prim h1
      have h4 := ih.chainL h2 h3.2
      exact ⟨by omega, h4.2⟩
    · intro d l x l' h
      simp only [prim] at h
      have lf : ∀ k j, ((leaf k l).andThen fun n l1 => Res.ok (n, true) l1) = .ok x l' → Nat.beq (kd l) j = true → j ≠ 0 → k ≠ 7 → l'.length < l.length ∧ SendOK x.1 := by
        intro k j h hj h0 hk
        obtain ⟨n, l1, h1, h2⟩ := andThen_ok h
        injection h2 with h2 h3
        subst h2 h3
        exact leaf_ok h1 hj h0 hk
      rcases cond_or h with ⟨h1, h2⟩ | ⟨_, h⟩
      · exact lf _ _ h2 h1 (by decide) (by decide)
      rcases cond_or h with ⟨h1, h2⟩ | ⟨_, h⟩
      · exact lf _ _ h2 h1 (by decide) (by decide)
      rcases cond_or h with ⟨h1, h2⟩ | ⟨_, h⟩
      · exact lf _ _ h2 h1 (by decide) (by decide)
      rcases cond_or h with ⟨h1, h2⟩ | ⟨_, h⟩
      · exact lf _ _ h2 h1 (by decide) (by decide)
      rcases cond_or h with ⟨h1, h2⟩ | ⟨_, h⟩
      · obtain ⟨n, l1, h3, h4⟩ := andThen_ok h2
        injection h4 with h4 h5
        subst h4 h5
        exact ih.lst h3
      rcases cond_or h with ⟨h1, h2⟩ | ⟨_, h⟩
      · obtain ⟨n, l1, h3, h4⟩ := andThen_ok h2
        injection h4 with h4 h5
        subst h4 h5
        exact ih.blk h3 h1
      rcases cond_or h with ⟨h1, h2⟩ | ⟨_, h⟩
      · obtain ⟨_, h3⟩ := within_ok h2
        obtain ⟨e, l2, h4, h5⟩ := andThen_ok h3
        obtain ⟨t, l3, h6, h7⟩ := andThen_ok h5
        injection h7 with h7 h8
        subst h7 h8
        have h9 := ih.expr h4
        have h10 := need_ok h6
        have h11 := tk_le l
        have h12 := tk_le l2
        rw [← h10.2.2] at h12
        exact ⟨by omega, h9.2⟩
      · simp [syn] at h
    · intro d l n l' h
      simp only [lst] at h
      obtain ⟨_, h3⟩ := within_ok h
      have h4 := ih.lstL h3
      have h11 := tk_le l
      exact ⟨by omega, h4.2⟩
    · intro d p ks l n l' h
      simp only [lstL] at h
      rcases cond_or h with ⟨h1, h2⟩ | ⟨h1, h2⟩
      · injection h2 with h2 h3
        subst h2 h3
        exact ⟨tk_lt h1 (by decide), sendOK_of (by decide)⟩
      · obtain ⟨e, l1, h3, h4⟩ := andThen_ok h2
        have h5 := ih.elem h3
        have h6 := ih.lstL h4
        exact ⟨by omega, h6.2⟩
    · intro d l n l' h
      simp only [elem] at h
      rcases cond_or h with ⟨h1, h2⟩ | ⟨_, h⟩
      · exact ih.lst h2
      rcases cond_or h with ⟨h1, h2⟩ | ⟨_, h⟩
      · exact leaf_ok h2 h1 (by decide) (by decide)
      rcases cond_or h with ⟨h1, h2⟩ | ⟨_, h⟩
      · exact leaf_ok h2 h1 (by decide) (by decide)
      rcases cond_or h with ⟨h1, h2⟩ | ⟨_, h⟩
      · refine leaf_ok h2 h1 (by decide) ?_
        cases (hd l).text == trueT || ((hd l).text == falseT || (hd l).text == nilT) <;> decide
      rcases cond_or h with ⟨h1, h2⟩ | ⟨_, h⟩
      · rw [Bool.or_eq_true, Bool.or_eq_true] at h1
        rcases h1 with h1 | h1 | h1
        · exact leaf_ok h2 h1 (by decide) (by decide)
        · exact leaf_ok h2 h1 (by decide) (by decide)
        · exact leaf_ok h2 h1 (by decide) (by decide)
      · simp [syn] at h
    · intro d l n l' h hk
      simp only [blk] at h
      obtain ⟨_, h3⟩ := within_ok h
      have h4 := ih.blkN h3
      have h11 := tk_lt hk (by decide)
      exact ⟨by omega, fun e => by rw [h4.2] at e; simp at e⟩
    · intro d p ns l n l' h
      simp only [blkN] at h
      rcases cond_or h with ⟨h1, h2⟩ | ⟨h1, h⟩
      · obtain ⟨t, l1, h3, h4⟩ := andThen_ok h2
        have h5 := need_ok h3
        have h6 := ih.blkN h4
        have h7 := tk_le l
        have h8 := tk_le (tk l)
        rw [← h5.2.2] at h8
        exact ⟨by omega, h6.2⟩
      rcases cond_or h with ⟨h1, h2⟩ | ⟨h1, h⟩
      · obtain ⟨t, l1, h3, h4⟩ := andThen_ok h2
        obtain ⟨m, l2, h6, h7⟩ := andThen_ok h4
        injection h7 with h7 h8
        subst h7 h8
        have h5 := need_ok h3
        have h9 := ih.body h6
        have h10 := tk_le l
        have h11 := tk_le l2
        rw [← h5.2.2] at h10
        exact ⟨by omega, h9.2⟩
      · obtain ⟨m, l2, h6, h7⟩ := andThen_ok h
        injection h7 with h7 h8
        subst h7 h8
        have h9 := ih.body h6
        have h11 := tk_le l2
        exact ⟨by omega, h9.2⟩
    · intro d k n l n' l' h
      simp only [body] at h
      rcases cond_or h with ⟨h1, h2⟩ | ⟨h1, h⟩
      · have := ih.bodyN h2
        have h10 := tk_le l
        exact ⟨by omega, this.2⟩
      · exact ih.bodyL h
    · intro d k n l n' l' h
      simp only [bodyN] at h
      rcases cond_or h with ⟨h1, h2⟩ | ⟨h1, h⟩
      · have := ih.bodyN h2
        have h10 := tk_le l
        exact ⟨by omega, this.2⟩
      · obtain ⟨t, l1, h3, h4⟩ := andThen_ok h
        have h5 := need_ok h3
        have h9 := ih.bodyL h4
        have h10 := tk_le l
        rw [← h5.2.2] at h10
        exact ⟨by omega, h9.2⟩
    · intro d k n l n' l' h
      simp only [bodyL] at h
      rcases cond_or h with ⟨h1, h2⟩ | ⟨h1, h⟩
      · injection h2 with h2 h3
        subst h2 h3
        exact ⟨Nat.le_refl _, rfl⟩
      · obtain ⟨x, l1, h3, h4⟩ := andThen_ok h
        have h5 := ih.stmt h3
        rcases cond_or h4 with ⟨h6, h7⟩ | ⟨_, h7⟩
        · have h8 := ih.bodyL h7
          have h10 := tk_le l1
          exact ⟨by omega, h8.2⟩
        · have h10 : (bif Nat.beq (kd l1) 14 then tk l1 else l1).length ≤ l1.length := by
            cases Nat.beq (kd l1) 14
            · exact Nat.le_refl _
            · exact tk_le l1
          rcases cond_or h7 with ⟨h8, h9⟩ | ⟨_, h9⟩
          · injection h9 with h9 h11
            subst h9 h11
            exact ⟨by omega, rfl⟩
          · simp [syn] at h9
    · intro d l x l' h
      simp only [stmt] at h
      rcases cond_or h with ⟨h1, h2⟩ | ⟨h1, h⟩
      · obtain ⟨e, l1, h3, h4⟩ := andThen_ok h2
        injection h4 with h4 h5
        subst h4 h5
        have := (ih.expr h3).1
        have h10 := tk_le l
        exact ⟨by omega, sendOK_of (by decide)⟩
      · obtain ⟨e, l1, h3, h4⟩ := andThen_ok h
        injection h4 with h4 h5
        subst h4 h5
        exact ih.expr h3

theorem andThen_out {α β : Type} {r : Res α} {k : α → List Tok → Res β} (h1 : r ≠ .out) (h2 : ∀ a l, r = .ok a l → k a l ≠ .out) : r.andThen k ≠ .out := by
  cases r with
  | out => exact absurd rfl h1
  | bad p e => simp [Res.andThen]
  | ok a l => exact h2 a l rfl

theorem cond_out {α : Type} {c : Bool} {x y z : α} (h1 : c = true → x ≠ z) (h2 : c = false → y ≠ z) : (bif c then x else y) ≠ z := by
  cases c
  · exact h2 rfl
  · exact h1 rfl

theorem within_out {α : Type} {d : Nat} {l : List Tok} {k : Nat → List Tok → Res α} (h : k (d + 1) (tk l) ≠ .out) : within d l k ≠ .out := by
  unfold within
  exact cond_out (fun _ => by simp) (fun _ => h)

theorem need_out {k : Nat} {l : List Tok} : needS k l ≠ .out := by
  unfold needS
  exact cond_out (fun _ => by simp) (fun _ => by simp [syn])

theorem msgL_kids : ∀ {f d p : Nat} {t : List UInt8} {ks : List Node} {l : List Tok} {n : Node} {l' : List Tok}, msgL f d p t ks l = .ok n l' → n.kids.length + l'.length ≤ ks.length + l.length := by
  intro f
  induction f with
  | zero => intro d p t ks l n l' h; simp [msgL] at h
  | succ f ih =>
    intro d p t ks l n l' h
    simp only [msgL] at h
    rcases cond_or h with ⟨h1, h2⟩ | ⟨h1, h2⟩
    · obtain ⟨x, l1, h3, h4⟩ := andThen_ok h2
      have h5 := ((prog f).binary h3).1
      have h6 := ih h4
      have h7 := tk_le l
      simp only [List.length_append, List.length_cons, List.length_nil] at h6
      omega
    · injection h2 with h2 h3
      subst h2 h3
      exact Nat.le_refl _
theorem msg_kids {f d : Nat} {l : List Tok} {n : Node} {l' : List Tok} (h : msg f d l = .ok n l') : n.kids.length ≤ l.length + 1 := by
  cases f with
  | zero => simp [msg] at h
  | succ f =>
    simp only [msg] at h
    rcases cond_or h with ⟨h1, h2⟩ | ⟨_, h⟩
    · injection h2 with h2 _
      subst h2
      simp [Node.kids]
    rcases cond_or h with ⟨h1, h2⟩ | ⟨_, h⟩
    · obtain ⟨x, l1, h3, h4⟩ := andThen_ok h2
      injection h4 with h4 _
      subst h4
      simp [Node.kids]
    rcases cond_or h with ⟨h1, h2⟩ | ⟨_, h⟩
    · have := msgL_kids h2
      simp at this
      omega
    · simp [syn] at h

structure NOut (f : Nat) : Prop where
  expr : ∀ {d l}, 20 * l.length + 13 ≤ f → expr f d l ≠ .out
  casc : ∀ {d l}, 20 * l.length + 12 ≤ f → casc f d l ≠ .out
  cascL : ∀ {d p ks l}, 20 * l.length + 4 ≤ f → cascL f d p ks l ≠ .out
  msg : ∀ {d l}, 20 * l.length + 5 ≤ f → msg f d l ≠ .out
  msgL : ∀ {d p t ks l}, 20 * l.length + 4 ≤ f → msgL f d p t ks l ≠ .out
  chainL : ∀ {d k o n p l}, 20 * l.length + 6 ≤ f → chainL f d k o n p l ≠ .out
  keyed : ∀ {d l}, 20 * l.length + 11 ≤ f → keyed f d l ≠ .out
  binary : ∀ {d l}, 20 * l.length + 10 ≤ f → binary f d l ≠ .out
  unary : ∀ {d l}, 20 * l.length + 9 ≤ f → unary f d l ≠ .out
  prim : ∀ {d l}, 20 * l.length + 8 ≤ f → prim f d l ≠ .out
  lst : ∀ {d l}, 20 * l.length + 6 ≤ f → (tk l).length < l.length → lst f d l ≠ .out
  lstL : ∀ {d p ks l}, 20 * l.length + 8 ≤ f → lstL f d p ks l ≠ .out
  elem : ∀ {d l}, 20 * l.length + 7 ≤ f → elem f d l ≠ .out
  blk : ∀ {d l}, 20 * l.length + 6 ≤ f → (tk l).length < l.length → blk f d l ≠ .out
  blkN : ∀ {d p ns l}, 20 * l.length + 19 ≤ f → blkN f d p ns l ≠ .out
  body : ∀ {d k n l}, 20 * l.length + 18 ≤ f → body f d k n l ≠ .out
  bodyN : ∀ {d k n l}, 20 * l.length + 17 ≤ f → bodyN f d k n l ≠ .out
  bodyL : ∀ {d k n l}, 20 * l.length + 16 ≤ f → bodyL f d k n l ≠ .out
  stmt : ∀ {d l}, 20 * l.length + 15 ≤ f → stmt f d l ≠ .out

theorem nout : ∀ f, NOut f := by
  intro f
  induction f with
  | zero => constructor <;> intros <;> omega
  | succ f ih =>
    have pr := prog f
    constructor
    · intro d l h
      simp only [expr]
      refine cond_out (fun h1 => within_out (andThen_out (ih.expr ?_) fun e l2 h2 => by simp)) fun _ => ih.casc (by omega)
      rw [Bool.and_eq_true] at h1
      have h7 := tk_lt h1.1 (by decide)
      have h8 := tk_le (tk l)
      omega
    · intro d l h
      simp only [casc]
      refine andThen_out (ih.keyed (by omega)) fun x l1 h1 => cond_out (fun _ => cond_out (fun _ => ih.cascL ?_) fun _ => by simp [syn]) fun _ => by simp
      have := (pr.keyed h1).1
      omega
    · intro d p ks l h
      simp only [cascL]
      refine cond_out (fun h1 => ?_) fun _ => by simp
      have h7 := tk_lt h1 (by decide)
      refine andThen_out (ih.msg (by omega)) fun m l1 h2 => ih.cascL ?_
      have := pr.msg h2
      omega
    · intro d l h
      simp only [msg]
      refine cond_out (fun h1 => by simp) fun _ => cond_out (fun h1 => ?_) fun _ => cond_out (fun h1 => ih.msgL (by omega)) fun _ => by simp [syn]
      have h7 := tk_lt h1 (by decide)
      exact andThen_out (ih.unary (by omega)) fun x l1 _ => by simp
    · intro d p t ks l h
      simp only [msgL]
      refine cond_out (fun h1 => ?_) fun _ => by simp
      have h7 := tk_lt h1 (by decide)
      refine andThen_out (ih.binary (by omega)) fun m l1 h2 => ih.msgL ?_
      have := (pr.binary h2).1
      omega
    · intro d k o n p l h
      simp only [chainL]
      refine cond_out (fun h1 => ?_) fun _ => by simp
      refine andThen_out (ih.msg (by omega)) fun m l1 h2 => cond_out (fun _ => by simp) fun _ => ih.chainL ?_
      have := pr.msg h2
      omega
    · intro d l h
      simp only [keyed]
      refine andThen_out (ih.binary (by omega)) fun x l1 h1 => ih.chainL ?_
      have := (pr.binary h1).1
      omega
    · intro d l h
      simp only [binary]
      refine andThen_out (ih.unary (by omega)) fun x l1 h1 => ih.chainL ?_
      have := (pr.unary h1).1
      omega
    · intro d l h
      simp only [unary]
      refine andThen_out (ih.prim (by omega)) fun x l1 h1 => ih.chainL ?_
      have := (pr.prim h1).1
      omega
    · intro d l h
      simp only [prim]
      have lf : ∀ k, ((leaf k l).andThen fun n l1 => Res.ok (n, true) l1) ≠ .out := fun k => by simp [leaf, Res.andThen]
      refine cond_out (fun _ => lf _) fun _ => cond_out (fun _ => lf _) fun _ => cond_out (fun _ => lf _) fun _ => cond_out (fun _ => lf _) fun _ => cond_out (fun h1 => ?_) fun _ => cond_out (fun h1 => ?_) fun _ => cond_out (fun h1 => ?_) fun _ => by simp [syn]
      · exact andThen_out (ih.lst (by omega) (tk_lt h1 (by decide))) fun x l1 _ => by simp
      · exact andThen_out (ih.blk (by omega) (tk_lt h1 (by decide))) fun x l1 _ => by simp
      · have h7 := tk_lt h1 (by decide)
        exact within_out (andThen_out (ih.expr (by omega)) fun e l2 _ => andThen_out need_out fun t l3 _ => by simp)
    · intro d l h ht
      simp only [lst]
      exact within_out (ih.lstL (by omega))
    · intro d p ks l h
      simp only [lstL]
      refine cond_out (fun h1 => by simp) fun _ => andThen_out (ih.elem (by omega)) fun e l1 h1 => ih.lstL ?_
      have := (pr.elem h1).1
      omega
    · intro d l h
      simp only [elem]
      refine cond_out (fun h1 => ih.lst (by omega) ?_) fun _ => cond_out (fun _ => by simp [leaf]) fun _ => cond_out (fun _ => by simp [leaf]) fun _ => cond_out (fun _ => by simp [leaf]) fun _ => cond_out (fun _ => by simp [leaf]) fun _ => by simp [syn]
      rw [Bool.or_eq_true] at h1
      rcases h1 with h1 | h1
      · exact tk_lt h1 (by decide)
      · exact tk_lt h1 (by decide)
    · intro d l h ht
      simp only [blk]
      exact within_out (ih.blkN (by omega))
    · intro d p ns l h
      simp only [blkN]
      refine cond_out (fun h1 => ?_) fun _ => cond_out (fun _ => ?_) fun _ => andThen_out (ih.body (by omega)) fun m l2 _ => by simp
      · have h7 := tk_lt h1 (by decide)
        refine andThen_out need_out fun t l1 h2 => ih.blkN ?_
        have h8 := tk_le (tk l)
        rw [← (need_ok h2).2.2] at h8
        omega
      · refine andThen_out need_out fun t l1 h2 => andThen_out (ih.body ?_) fun m l2 _ => by simp
        have h8 := tk_le l
        rw [← (need_ok h2).2.2] at h8
        omega
    · intro d k n l h
      simp only [body]
      refine cond_out (fun h1 => ih.bodyN ?_) fun _ => ih.bodyL (by omega)
      have h7 := tk_lt h1 (by decide)
      omega
    · intro d k n l h
      simp only [bodyN]
      refine cond_out (fun h1 => ih.bodyN ?_) fun _ => andThen_out need_out fun t l1 h2 => ih.bodyL ?_
      · have h7 := tk_lt h1 (by decide)
        omega
      · have h8 := tk_le l
        rw [← (need_ok h2).2.2] at h8
        omega
    · intro d k n l h
      simp only [bodyL]
      refine cond_out (fun h1 => by simp) fun _ => andThen_out (ih.stmt (by omega)) fun x l1 h2 => cond_out (fun h3 => ih.bodyL ?_) fun _ => cond_out (fun _ => by simp) fun _ => by simp [syn]
      have h5 := (pr.stmt h2).1
      have h7 := tk_le l1
      omega
    · intro d l h
      simp only [stmt]
      refine cond_out (fun h1 => ?_) fun _ => andThen_out (ih.expr (by omega)) fun x l1 _ => by simp
      have h7 := tk_lt h1 (by decide)
      exact andThen_out (ih.expr (by omega)) fun x l1 _ => by simp
end Go.Vx
namespace Go.Vx
open Go Go.Proofs
variable {R : Ending → World → Prop} {g : G} {w : World} {H hp : Hp}

/-- A part's cells. -/
inductive NodeR (g : G) : List Value → Node → Prop
  | mk {kind pos n : Nat} {text : List UInt8} {names : List (List UInt8)} {kids : List Node} {nv kv : Value} {kcs : List (List Value)} (h1 : Sl g 1 nv names.length (names.map str)) (h2 : Sl g 6 kv kids.length kcs.flatten)
      (h3 : kcs.length = kids.length) (h4 : ∀ (i : Nat) (c : List Value) (k : Node), kcs[i]? = some c → kids[i]? = some k → NodeR g c k) :
      NodeR g [i64 (kind : Int), str text, i64 (pos : Int), i64 (n : Int), nv, kv] (.mk kind text pos n names kids)

theorem NodeR.mono {g g' : G} (hg : g.le g') {c : List Value} {n : Node} (h : NodeR g c n) : NodeR g' c n := by
  induction h with
  | mk h1 h2 h3 _ ih => exact .mk (h1.mono hg) (h2.mono hg) h3 ih

theorem NodeR.len {c : List Value} {n : Node} (h : NodeR g c n) : c.length = 6 := by cases h; rfl
theorem Sl.one {sz n : Nat} {v : Value} {cs : List Value} (h : Sl g sz v n cs) : one v = true := by obtain ⟨a, c, rfl, _⟩ := h; rfl
theorem NodeR.one {c : List Value} {n : Node} (h : NodeR g c n) : allOne c = true := by
  cases h with
  | mk h1 h2 _ _ =>
    simp only [allOne, h1.one, h2.one]
    rfl

/-- Parts side by side. -/
def KR (g : G) (kcs : List (List Value)) (kids : List Node) : Prop := kcs.length = kids.length ∧ ∀ (i : Nat) (c : List Value) (k : Node), kcs[i]? = some c → kids[i]? = some k → NodeR g c k
theorem KR.mono {g g' : G} (hg : g.le g') {a : List (List Value)} {b : List Node} (h : KR g a b) : KR g' a b := ⟨h.1, fun i c k h1 h2 => (h.2 i c k h1 h2).mono hg⟩
theorem KR.nil : KR g [] [] := ⟨rfl, fun i c k h => by simp at h⟩
theorem KR.snoc {a : List (List Value)} {b : List Node} {c : List Value} {k : Node} (h : KR g a b) (hk : NodeR g c k) : KR g (a ++ [c]) (b ++ [k]) := by
  refine ⟨by simp [h.1], fun i c' k' h1 h2 => ?_⟩
  rw [List.getElem?_append] at h1 h2
  by_cases hi : i < a.length
  · rw [if_pos hi] at h1
    rw [if_pos (by rw [← h.1]; exact hi)] at h2
    exact h.2 i c' k' h1 h2
  · rw [if_neg hi] at h1
    rw [if_neg (by rw [← h.1]; exact hi), ← h.1] at h2
    cases hj : i - a.length with
    | zero =>
      rw [hj] at h1 h2
      simp at h1 h2
      subst h1 h2
      exact hk
    | succ j => rw [hj] at h1; simp at h1
theorem KR.cons {a : List (List Value)} {b : List Node} {c : List Value} {k : Node} (h : KR g a b) (hk : NodeR g c k) : KR g (c :: a) (k :: b) := by
  refine ⟨by simp [h.1], fun i c' k' h1 h2 => ?_⟩
  cases i with
  | zero => simp at h1 h2; subst h1 h2; exact hk
  | succ i => exact h.2 i c' k' (by simpa using h1) (by simpa using h2)
theorem KR.flat {a : List (List Value)} {b : List Node} (h : KR g a b) : a.flatten.length = b.length * 6 := by
  obtain ⟨h1, h2⟩ := h
  induction a generalizing b with
  | nil => cases b with
    | nil => rfl
    | cons k b => simp at h1
  | cons c a ih =>
    cases b with
    | nil => simp at h1
    | cons k b =>
      have h3 := ih (b := b) (by simpa using h1) (fun i c' k' h4 h5 => h2 (i + 1) c' k' (by simpa using h4) (by simpa using h5))
      have h4 := (h2 0 c k rfl rfl).len
      simp only [List.flatten_cons, List.length_append, h3, h4, List.length_cons]
      omega
theorem KR.one {a : List (List Value)} {b : List Node} (h : KR g a b) : allOne a.flatten = true := by
  obtain ⟨h1, h2⟩ := h
  have app : ∀ x y : List Value, allOne x = true → allOne y = true → allOne (x ++ y) = true := by
    intro x y
    induction x with
    | nil => intro _ h; exact h
    | cons v x ih => intro h h'; simp only [allOne, Bool.and_eq_true, List.cons_append] at *; exact ⟨h.1, ih h.2 h'⟩
  induction a generalizing b with
  | nil => rfl
  | cons c a ih =>
    cases b with
    | nil => simp at h1
    | cons k b =>
      have h3 := ih (b := b) (by simpa using h1) (fun i c' k' h4 h5 => h2 (i + 1) c' k' (by simpa using h4) (by simpa using h5))
      exact app _ _ (h2 0 c k rfl rfl).one h3

/-- Words that end. -/
structure WFL (l : List Tok) : Prop where
  last : ∃ init t, l = init ++ [t] ∧ t.kind = 0
  text : ∀ t ∈ l, t.text.length ≤ 4096
  len : l.length ≤ 4097

theorem WFL.pos {l : List Tok} (h : WFL l) : 0 < l.length := by
  obtain ⟨i, t, rfl, _⟩ := h.last
  simp
theorem WFL.tail {l : List Tok} (h : WFL l) (hk : Nat.beq (kd l) 0 = false) : WFL l.tail := by
  obtain ⟨i, t, rfl, ht⟩ := h.last
  cases i with
  | nil =>
    simp only [List.nil_append] at hk
    have : kd [t] = 0 := ht
    rw [this] at hk
    simp at hk
  | cons a i =>
    refine ⟨⟨i, t, rfl, ht⟩, fun x hx => h.text x (by simp at hx ⊢; exact .inr hx), ?_⟩
    have := h.len
    simp at this ⊢
    omega
theorem WFL.tk {l : List Tok} (h : WFL l) : WFL (tk l) := by
  unfold Vx.tk
  cases hk : Nat.beq (kd l) 0
  · exact h.tail hk
  · exact h
theorem WFL.hd {l : List Tok} (h : WFL l) : l[0]? = some (hd l) ∧ (Vx.hd l).text.length ≤ 4096 := by
  obtain ⟨i, t, rfl, ht⟩ := h.last
  cases i with
  | nil => exact ⟨rfl, h.text t (by simp)⟩
  | cons a i => exact ⟨rfl, h.text a (by simp)⟩

/-- A parser's block. -/
abbrev prs (v : Value) (d : Nat) : Obj := .cells [v, i64 (d : Int)].toArray Ty.tree_parser

/-- What somebody who gives up leaves. -/
def stopE (p e : Nat) : List PanicEntry := [{ v := .iface Ty.tree_stop (.agg #[i64 (p : Int), i64 (e : Int)]), recovered := false }]

abbrev TS (g : G) (v : Value) (l : List Tok) : Prop := Sl g 3 v l.length (toks l)

theorem toks_at {l : List Tok} {j : Nat} {t : Tok} (h : l[j]? = some t) : ((toks l).drop (j * 3)).take 3 = tokCells t := by
  induction l generalizing j with
  | nil => simp at h
  | cons a l ih =>
    cases j with
    | zero =>
      simp only [List.getElem?_cons_zero, Option.some.injEq] at h
      subst h
      rfl
    | succ j =>
      have := ih (j := j) (by simpa using h)
      rw [show (j + 1) * 3 = 3 + j * 3 from by omega, ← List.drop_drop]
      exact this

/-- A word of those that stay. -/
theorem TS.at {v : Value} {l : List Tok} (hT : TS g v l) (hS : Sat g w H) {j : Nat} {t : Tok} (hj : l[j]? = some t) {K : Value → World → Prop}
    (hk : ∀ b o, g.cell? b o = some (i64 (t.kind : Int)) → g.cell? b (o + 1) = some (str t.text) → g.cell? b (o + 2) = some (i64 (t.pos : Int)) → K (ptr b o) w) : ia 3 v (i64 (j : Int)) K w := by
  refine Sl.at hT hS (List.getElem?_eq_some_iff.1 hj).1 (by decide) fun b o h => ?_
  rw [toks_at hj] at h
  exact hk b o (by simpa using h 0 _ rfl) (h 1 _ rfl) (h 2 _ rfl)

theorem c_kind {p : Nat} {v : Value} {l : List Tok} {d : Nat} (hl : WFL l) (hT : TS g v l) (hS : Sat g w ((p, prs v d) :: H)) (hR : R (.returned (i64 (kd l : Int))) w) : Tr P F.tree_parser_kind [ptr p 0] w R := by
  apply t_tree_parser_kind
  unfold d_tree_parser_kind
  simp only [↓E1, ↓E2, ↓E3, ↓hS.ld0, Nat.reduceAdd, Nat.reduceLT]
  refine TS.at hT (j := 0) hS hl.hd.1 fun b o h1 _ _ => ?_
  simp only [↓E1, Nat.add_zero]
  rw [hS.ldI h1]
  exact hR

theorem c_bad {p : Nat} {v : Value} {l : List Tok} {d : Nat} {e : Nat} (hl : WFL l) (hT : TS g v l) (hS : Sat g w ((p, prs v d) :: H)) (hR : R (.panicked (stopE (hd l).pos e)) w) : Tr P F.tree_parser_bad [ptr p 0, i64 (e : Int)] w R := by
  apply t_tree_parser_bad
  unfold d_tree_parser_bad
  simp only [↓E1, ↓E2, ↓E3, ↓hS.ld0, Nat.reduceAdd, Nat.reduceLT]
  refine TS.at hT (j := 0) hS hl.hd.1 fun b o _ _ h3 => ?_
  simp only [↓E1]
  rw [hS.ldI h3]
  refine bdI (cs := [i64 ((hd l).pos : Int), i64 (e : Int)]) rfl ?_
  exact hR

theorem Sl.from1 {a : Option Addr} {n c sz : Nat} {cs : List Value} (h : Sl g sz (.slice a n c) n cs) (hn : 1 ≤ n) (hsz : 0 < sz) :
    Sl g sz (.slice (if (c : Int) = 1 then a else a.map (·.add ((1 : Int).toNat * sz))) (n - (1 : Int).toNat) (c - (1 : Int).toNat)) (n - 1) (cs.drop sz) := by
  obtain ⟨a', c', he, h2, h3, h4⟩ := h
  injection he with e1 _ e3
  subst e1 e3
  have hlen : (cs.drop sz).length = (n - 1) * sz := by
    rw [List.length_drop, h3, Nat.sub_mul, Nat.one_mul]
  refine ⟨_, _, rfl, by show n - 1 ≤ c - 1; omega, hlen, ?_⟩
  by_cases hc : (c : Int) = 1
  · have hn1 : n = 1 := by omega
    subst hn1
    have : cs.drop sz = [] := List.eq_nil_of_length_eq_zero (by rw [hlen]; simp)
    rw [this, if_pos hc]
    rcases h4 with ⟨h4, _⟩ | ⟨b, o, h5, _⟩
    · exact .inl ⟨h4, rfl⟩
    · exact .inr ⟨b, o, h5, fun j x hx => by simp at hx⟩
  · rw [if_neg hc]
    rcases h4 with ⟨h4, h5⟩ | ⟨b, o, h5, h6⟩
    · subst h4 h5; exact .inl ⟨rfl, by simp⟩
    · refine .inr ⟨b, o + sz, ?_, fun j x hx => ?_⟩
      · rw [h5]
        show some ((⟨b, o, none⟩ : Addr).add (1 * sz)) = _
        rw [Nat.one_mul, add_plain]
      · rw [List.getElem?_drop] at hx
        have := h6 _ _ hx
        rw [← Nat.add_assoc] at this
        exact this

theorem toks_drop (l : List Tok) : (toks l).drop 3 = toks l.tail := by
  cases l with
  | nil => rfl
  | cons t l => rfl

theorem c_take {p : Nat} {v : Value} {l : List Tok} {d : Nat} (hl : WFL l) (hT : TS g v l) (hS : Sat g w ((p, prs v d) :: H))
    (hR : ∀ v' w', TS g v' (tk l) → Sat g w' ((p, prs v' d) :: H) → R (.returned (tokV (hd l))) w') : Tr P F.tree_parser_take [ptr p 0] w R := by
  apply t_tree_parser_take
  unfold d_tree_parser_take
  refine hS.al fun b2 w1 h1 => ?_
  have h1 := h1.swap2
  simp only [↓E1, ↓E2, ↓E3, ↓h1.ld0, Nat.reduceAdd, Nat.reduceLT]
  refine TS.at hT (j := 0) h1 hl.hd.1 fun b o c0 c1 c2 => ?_
  refine h1.ldnI (vs := tokCells (hd l)) (fun j x hx => ?_) ?_
  · match j, hx with
    | 0, hx => simp [tokCells] at hx; subst hx; exact c0
    | 1, hx => simp [tokCells] at hx; subst hx; exact c1
    | 2, hx => simp [tokCells] at hx; subst hx; exact c2
    | j + 3, hx => simp [tokCells] at hx
  refine h1.al fun b3 w2 h2 => ?_
  refine h2.st (c := [i64 0, str [], i64 0]) rfl (by simp) rfl fun w3 h3 => ?_
  have h3 : Sat g w3 ((b3, .cells (tokCells (hd l)).toArray 112) :: (p, prs v d) :: (b2, .cells [i64 0, str [], i64 0].toArray 112) :: H) := h3
  -- at the end
  have fin : ∀ v' w4, TS g v' (tk l) → Sat g w4 ((b3, .cells (tokCells (hd l)).toArray 112) :: (p, prs v' d) :: (b2, .cells [i64 0, str [], i64 0].toArray 112) :: H) →
      ldn 3 (ptr b3 0) (fun t21 w => st 3 (ptr b2 0) t21 (fun w => ldn 3 (ptr b2 0) (fun r0 w => R (.returned r0) w) w) w) w4 := by
    intro v' w4 hT' h4
    refine h4.ldn0 (c := tokCells (hd l)) rfl ?_
    have h5 : Sat g w4 ((b2, .cells [i64 0, str [], i64 0].toArray 112) :: (b3, .cells (tokCells (hd l)).toArray 112) :: (p, prs v' d) :: H) := h4.perm (List.perm_middle (l₁ := [(b3, _), (p, _)]))
    refine h5.st (c := [i64 0, str [], i64 0]) rfl (by simp) rfl fun w6 h6 => ?_
    have h6 : Sat g w6 ((b2, .cells (tokCells (hd l)).toArray 112) :: (b3, .cells (tokCells (hd l)).toArray 112) :: (p, prs v' d) :: H) := h6
    refine h6.ldn0 (c := tokCells (hd l)) rfl ?_
    exact hR v' w6 hT' h6.tail.tail
  simp only [↓E1, Nat.reduceAdd]
  rw [h3.ld0 0 _ (by simp [tokCells])]
  simp only [↓E1, ↓E2, tokCells, ↓E3]
  rw [cnd_ndec]
  constructor
  · intro hk
    have hb : Nat.beq (kd l) 0 = false := by
      cases hb : Nat.beq (kd l) 0 with
      | false => rfl
      | true => exact absurd (by have := Nat.eq_of_beq_eq_true hb; show ((kd l : Nat) : Int) = 0; omega) hk
    have htk : tk l = l.tail := by unfold tk; rw [hb]; rfl
    simp only [↓h3.ld1, ↓E1, ↓E3, Nat.reduceAdd, Nat.reduceLT]
    obtain ⟨a, c, he, h2', h3', h4'⟩ := id hT
    subst he
    have hpos := hl.pos
    refine slL_lo 3 a l.length c _ 1 (by omega) (by omega) h2' ?_
    have hfr := Sl.from1 hT hpos (by decide)
    rw [toks_drop, show l.length - 1 = l.tail.length from by simp] at hfr
    refine h3.swap2.st (c := [.slice a l.length c, i64 (d : Int)]) rfl (by simp) rfl fun w4 h4 => ?_
    refine fin _ w4 ?_ (Sat.swap2 h4)
    rw [htk]
    exact hfr
  · intro hk
    have hb : Nat.beq (kd l) 0 = true := by
      have : kd l = 0 := by have h : ((kd l : Nat) : Int) = 0 := hk; omega
      rw [this]; rfl
    have htk : tk l = l := by unfold tk; rw [hb]; rfl
    refine fin v w3 (by rw [htk]; exact hT) h3

theorem c_need {p : Nat} {v : Value} {l : List Tok} {d k : Nat} (hl : WFL l) (hT : TS g v l) (hS : Sat g w ((p, prs v d) :: H))
    (hok : ∀ v' w', needS k l = .ok (hd l) (tk l) → TS g v' (tk l) → Sat g w' ((p, prs v' d) :: H) → R (.returned (tokV (hd l))) w')
    (hbad : ∀ w', needS k l = .bad (hd l).pos 20 → Sat g w' ((p, prs v d) :: H) → R (.panicked (stopE (hd l).pos 20)) w') : Tr P F.tree_parser_need [ptr p 0, i64 (k : Int)] w R := by
  apply t_tree_parser_need
  unfold d_tree_parser_need
  refine hS.al fun b2 w1 h1 => ?_
  have h1 := h1.swap2
  simp only [↓E2]
  refine c_kind hl hT h1 ?_
  simp only [↓E1, ↓E3]
  rw [cnd_ndec]
  constructor
  · intro hne
    have hb : needS k l = .bad (hd l).pos 20 := by
      unfold needS
      have : Nat.beq (kd l) k = false := by
        cases hb : Nat.beq (kd l) k with
        | false => rfl
        | true => exact absurd (by have := Nat.eq_of_beq_eq_true hb; omega) hne
      rw [this]; rfl
    refine c_bad hl hT h1 ?_
    exact hbad _ hb (Sat.tail h1.swap2)
  · intro he
    have hb : needS k l = .ok (hd l) (tk l) := by
      unfold needS
      have : kd l = k := by omega
      rw [this, Nat.beq_refl]; rfl
    refine c_take hl hT h1 fun v' w2 hT' h2 => ?_
    simp only [↓E3]
    have h3 := h2.swap2
    refine h3.st (c := [i64 0, str [], i64 0]) rfl (by simp) rfl fun w4 h4 => ?_
    have h4 : Sat g w4 ((b2, .cells (tokCells (hd l)).toArray 112) :: (p, prs v' d) :: H) := h4
    refine h4.ldn0 (c := tokCells (hd l)) rfl ?_
    exact hok v' w4 hb hT' h4.tail
end Go.Vx
namespace Go.Vx
open Go Go.Proofs
variable {R : Ending → World → Prop} {g : G} {w : World} {H hp : Hp}

theorem c_within {p : Nat} {v : Value} {l : List Tok} {d k : Nat} {cap : Array Value} (hd40 : d ≤ 40) (hl : WFL l) (hT : TS g v l) (hS : Sat g w ((p, prs v d) :: H))
    (hbad : Nat.beq d 40 = true → ∀ w', Sat g w' ((p, prs v d) :: H) → R (.panicked (stopE (hd l).pos 3)) w')
    (hgo : Nat.beq d 40 = false → ∀ v' w', TS g v' (tk l) → Sat g w' ((p, prs v' (d + 1)) :: H) → Tr P k cap.toList w' fun e w2 => match e with
      | .returned _ => ∃ g2 v2 H2, Sat g2 w2 ((p, prs v2 (d + 1)) :: H2) ∧ ∀ w3, Sat g2 w3 ((p, prs v2 d) :: H2) → R (.returned (.tuple #[])) w3
      | .panicked ch => R (.panicked ch) w2
      | .outgrown => False) : Tr P F.tree_parser_within [ptr p 0, .func (.func k) #[] cap] w R := by
  apply t_tree_parser_within
  unfold d_tree_parser_within
  refine jn0 (fun w => Nat.beq d 40 = false ∧ Sat g w ((p, prs v d) :: H)) ?_ ?_
  · rintro w1 ⟨hne, h1⟩
    simp only [↓E1, ↓E2, ↓E3, ↓h1.ld0, Nat.reduceAdd, Nat.reduceLT]
    rw [wrap64_succ (by omega)]
    refine h1.st rfl (by simp) rfl fun w2 h2 => ?_
    have h2 : Sat g w2 ((p, prs v (d + 1)) :: H) := h2
    refine c_take hl hT h2 fun v' w3 hT' h3 => ?_
    simp only [↓E2, ↓E3]
    refine (hgo hne v' w3 hT' h3).mono ?_
    intro e w4 he
    cases e with
    | returned x =>
      obtain ⟨g2, v2, H2, h4, hk⟩ := he
      simp only [↓E1, ↓E3, ↓h4.ld0, Nat.reduceAdd, Nat.reduceLT]
      have e1 : IntKind.i64.wrap (((d + 1 : Nat) : Int) - 1) = ((d : Nat) : Int) := by rw [wrap64_of (by omega) (by omega)]; omega
      rw [e1]
      refine h4.st rfl (by simp) rfl fun w5 h5 => ?_
      exact hk w5 h5
    | panicked ch => exact he
    | outgrown => exact he.elim
  · intro k1 hk1
    simp only [↓E1, ↓E2, ↓E3, ↓hS.ld0, Nat.reduceAdd, Nat.reduceLT]
    rw [cnd_dec]
    constructor
    · intro h
      have hb : Nat.beq d 40 = true := by
        have : d = 40 := by omega
        rw [this]; rfl
      exact c_bad hl hT hS (hbad hb _ hS)
    · intro h
      have hb : Nat.beq d 40 = false := by
        cases hb : Nat.beq d 40 with
        | false => rfl
        | true => have := Nat.eq_of_beq_eq_true hb; omega
      exact hk1 _ ⟨hb, hS⟩

/-- What follows when a part has been read. -/
def OkN (g : G) (R : Ending → World → Prop) (p d : Nat) (H : Hp) (n : Node) (l' : List Tok) : Prop :=
  ∀ g' c v' w', g.le g' → NodeR g' c n → TS g' v' l' → WFL l' → Sat g' w' ((p, prs v' d) :: H) → R (.returned (.agg c.toArray)) w'
def OkB (g : G) (R : Ending → World → Prop) (p d : Nat) (H : Hp) (n : Node) (b : Bool) (l' : List Tok) : Prop :=
  ∀ g' c v' w', g.le g' → NodeR g' c n → TS g' v' l' → WFL l' → Sat g' w' ((p, prs v' d) :: H) → R (.returned (.tuple #[.agg c.toArray, .bool b])) w'
def Bad (g : G) (R : Ending → World → Prop) (p : Nat) (H : Hp) (q e : Nat) : Prop :=
  ∀ g' v' d' w', g.le g' → Sat g' w' ((p, prs v' d') :: H) → R (.panicked (stopE q e)) w'

def CN (fn : Nat) (spec : Nat → List Tok → Res Node) : Prop :=
  ∀ {p d : Nat} {l : List Tok} {v : Value} {g : G} {w : World} {H : Hp} {R : Ending → World → Prop}, d ≤ 40 → WFL l → TS g v l → Sat g w ((p, prs v d) :: H) → spec d l ≠ .out →
    (∀ n l', spec d l = .ok n l' → OkN g R p d H n l') → (∀ q e, spec d l = .bad q e → Bad g R p H q e) → Tr P fn [ptr p 0] w R
def CB (fn : Nat) (spec : Nat → List Tok → Res (Node × Bool)) : Prop :=
  ∀ {p d : Nat} {l : List Tok} {v : Value} {g : G} {w : World} {H : Hp} {R : Ending → World → Prop}, d ≤ 40 → WFL l → TS g v l → Sat g w ((p, prs v d) :: H) → spec d l ≠ .out →
    (∀ n b l', spec d l = .ok (n, b) l' → OkB g R p d H n b l') → (∀ q e, spec d l = .bad q e → Bad g R p H q e) → Tr P fn [ptr p 0] w R

/-- A part's box. -/
abbrev box (c : List Value) : Obj := .cells c.toArray Ty.tree_Node
def zN : List Value := [i64 0, str [], i64 0, i64 0, .slice none 0 0, .slice none 0 0]

theorem nodeR_leaf (g : G) (k : Nat) (t : List UInt8) (q : Nat) : NodeR g [i64 (k : Int), str t, i64 (q : Int), i64 ((0 : Nat) : Int), .slice none 0 0, .slice none 0 0] (.mk k t q 0 [] []) :=
  .mk (kcs := []) (Sl.nil g 1) (Sl.nil g 6) rfl (fun i c k h => by simp at h)

/-- Out of a box into the result's, and back. -/
theorem ret_box {b2 b4 : Nat} {c : List Value} {c2 : List Value} (h : Sat g w ((b4, box c) :: (b2, box c2) :: H)) (hc : c.length = 6) (hc2 : c2.length = 6) (h1 : allOne c = true) {K : Value → World → Prop}
    (hk : ∀ w', Sat g w' H → K (.agg c.toArray) w') : ldn 6 (ptr b4 0) (fun t w => st 6 (ptr b2 0) t (fun w => ldn 6 (ptr b2 0) K w) w) w := by
  refine h.ldn0 (c := c) hc.symm ?_
  refine h.swap2.st (c := c2) (v := .agg c.toArray) (by simp [Value.cells, hc]) (by omega) (by simpa [Value.cells] using h1) fun w6 h6 => ?_
  have e : wr c2.toArray 0 (Value.agg c.toArray).cells.toList = c.toArray := by
    have := wr0 c c2 (by omega)
    simp only [Value.cells]
    rw [this, List.drop_eq_nil_of_le (by omega)]
    simp
  rw [e] at h6
  refine h6.ldn0 (c := c) hc.symm ?_
  exact hk w6 h6.tail.tail

/-- A part is put into a box. -/
theorem st_box {b : Nat} {c c2 : List Value} (h : Sat g w ((b, box c2) :: H)) (hc : c.length = 6) (hc2 : c2.length = 6) (h1 : allOne c = true) {K : World → Prop} (hk : ∀ w', Sat g w' ((b, box c) :: H) → K w') : st 6 (ptr b 0) (.agg c.toArray) K w := by
  refine h.st (c := c2) (v := .agg c.toArray) (by simp [Value.cells, hc]) (by omega) (by simpa [Value.cells] using h1) fun w6 h6 => ?_
  have e : wr c2.toArray 0 (Value.agg c.toArray).cells.toList = c.toArray := by
    have := wr0 c c2 (by omega)
    simp only [Value.cells]
    rw [this, List.drop_eq_nil_of_le (by omega)]
    simp
  rw [e] at h6
  exact hk w6 h6

/-- What is there of the words' functions at one fuel. -/
structure AllOK (f : Nat) : Prop where
  expr : CN F.tree_parser_expression (expr f)
  casc : CN F.tree_parser_cascade (casc f)
  msg : CN F.tree_parser_message (msg f)
  keyed : CB F.tree_parser_keyed (keyed f)
  binary : CB F.tree_parser_binary (binary f)
  unary : CB F.tree_parser_unary (unary f)
  prim : CB F.tree_parser_primary (prim f)
  lst : CN F.tree_parser_list (lst f)
  elem : CN F.tree_parser_element (elem f)
  blk : CN F.tree_parser_block (blk f)
  stmt : CB F.tree_parser_statement (stmt f)

theorem andThen_eq_ok {α β : Type} {a : α} {l : List Tok} {k : α → List Tok → Res β} : (Res.ok a l).andThen k = k a l := rfl
theorem andThen_eq_bad {α β : Type} {q e : Nat} {k : α → List Tok → Res β} : (Res.bad q e : Res α).andThen k = .bad q e := rfl
theorem andThen_not_out {α β : Type} {r : Res α} {k : α → List Tok → Res β} (h : r.andThen k ≠ .out) : r ≠ .out := fun e => h (by rw [e]; rfl)

/-- A message goes to a receiver. -/
theorem c_sent {f : Nat} (hm : CN F.tree_parser_message (msg f)) {p d : Nat} {l : List Tok} {v : Value} {c : List Value} {n : Node} (hd40 : d ≤ 40) (hl : WFL l) (hT : TS g v l) (hn : NodeR g c n) (hS : Sat g w ((p, prs v d) :: H)) (hno : msg f d l ≠ .out)
    (hok : ∀ m l', msg f d l = .ok m l' → OkN g R p d H (sendN n m) l') (hbad : ∀ q e, msg f d l = .bad q e → Bad g R p H q e) : Tr P F.tree_parser_sent [ptr p 0, .agg c.toArray] w R := by
  apply t_tree_parser_sent
  unfold d_tree_parser_sent
  have hz : (Value.agg c.toArray).cells.toList = c := by simp [Value.cells]
  rw [hz]
  refine hS.al fun b3 w1 h1 => h1.al fun b4 w2 h2 => ?_
  simp only [↓E2]
  have h3 : Sat g w2 ((p, prs v d) :: (b4, box zN) :: (b3, box c) :: H) := h2.perm (List.perm_middle (l₁ := [(b4, _), (b3, _)])).symm.symm
  refine hm hd40 hl hT h3 hno (fun m l' hm' => ?_) (fun q e hq => ?_)
  · intro g1 cm v1 w3 hg1 hcm hT1 hl1 h4
    simp only [↓E2, ↓E3]
    refine h4.al fun b5 w4 h5 => ?_
    refine st_box h5 hcm.len rfl hcm.one fun w5 h6 => ?_
    cases hcm with
    | @mk kd q nn t ns ks nv kv kcs s1 s2 s3 s4 =>
    have hr := h6.drew
    have h8 : Sat g1 w5.drew ((b3, box c) :: (b5, box [i64 (kd : Int), str t, i64 (q : Int), i64 (nn : Int), nv, kv]) :: (p, prs v1 d) :: (b4, box zN) :: H) :=
      hr.perm (List.perm_middle (l₁ := [(b5, _), (p, _), (b4, _)]))
    simp only [↓E1, ↓E2, ↓E3, ↓hr.ld0, Nat.reduceAdd, Nat.reduceLT]
    refine h8.ldn0 (c := c) hn.len.symm ?_
    simp only [↓hr.ld0, ↓E1, ↓E3, Nat.reduceAdd, Nat.reduceLT]
    have hlen6 := hn.len
    refine hr.bs (cs := c) ?_ fun b6 w6 h9 => ?_
    · simp only [fillV, Value.cells]
      rw [wr0 c _ (by simp [hlen6])]
      simp [hlen6]
    have hmem : (b5, box [i64 (kd : Int), str t, i64 (q : Int), i64 (nn : Int), nv, kv]) ∈ ((b6, Obj.cells c.toArray 50) :: (b5, box [i64 (kd : Int), str t, i64 (q : Int), i64 (nn : Int), nv, kv]) :: (p, prs v1 d) :: (b4, box zN) :: (b3, box c) :: H) := by simp
    refine h9.rk (t := 50) (fr := (0, 0)) (c := [i64 (kd : Int), str t, i64 (q : Int), i64 (nn : Int), nv, kv]) (by simp) rfl ?_
    refine h9.rk (t := 50) (fr := (0, 0)) (c := [i64 (kd : Int), str t, i64 (q : Int), i64 (nn : Int), nv, kv]) (by simp) rfl ?_
    refine h9.rk (t := 50) (fr := (0, 0)) (c := [i64 (kd : Int), str t, i64 (q : Int), i64 (nn : Int), nv, kv]) (by simp) rfl ?_
    have hkr : KR g1 kcs ks := ⟨s3, s4⟩
    have hbnd : ks.length ≤ l.length + 1 := msg_kids hm'
    have hl97 := hl.len
    have h10 : Sat g1 w6 ([(b6, .cells (c ++ []).toArray 50)] ++ ((b5, box [i64 (kd : Int), str t, i64 (q : Int), i64 (nn : Int), nv, kv]) :: (p, prs v1 d) :: (b4, box zN) :: (b3, box c) :: H)) := by simpa using h9
    refine Sat.ap (sz := 6) h10 (.some (by simpa using hlen6) (by simp) (by omega) (by omega)) rfl (h9.srcI s2) hkr.flat hkr.one (by omega) (by omega) fun v' hp' w7 hg7 h11 => ?_
    refine h11.rk (b := b5) (t := 50) (fr := (0, 0)) (c := [i64 (kd : Int), str t, i64 (q : Int), i64 (nn : Int), nv, kv]) (by simp) rfl ?_
    refine h11.rk (b := b5) (t := 50) (fr := (0, 0)) (c := [i64 (kd : Int), str t, i64 (q : Int), i64 (nn : Int), nv, kv]) (by simp) rfl ?_
    obtain ⟨g2, hg2, h12, hsl⟩ := hg7.freeze h11
    have hone := hsl.one
    refine bdI (cs := [i64 7, str t, i64 (q : Int), i64 0, .slice none 0 0, v']) (by obtain ⟨a', c', rfl, _⟩ := hsl; rfl) ?_
    have h13 : Sat g2 w7 ((b4, box zN) :: (b5, box [i64 (kd : Int), str t, i64 (q : Int), i64 (nn : Int), nv, kv]) :: (p, prs v1 d) :: (b3, box c) :: H) := h12.perm (List.perm_middle (l₁ := [(b5, _), (p, _)]))
    have hN : NodeR g2 [i64 ((7 : Nat) : Int), str t, i64 (q : Int), i64 ((0 : Nat) : Int), .slice none 0 0, v'] (sendN n (.mk kd t q nn ns ks)) := by
      have hkr2 := (hkr.mono hg2).cons (hn.mono (hg1.trans hg2))
      refine .mk (kcs := c :: kcs) (Sl.nil g2 1) ?_ hkr2.1 hkr2.2
      have : (1 + ks.length) = (n :: ks).length := by simp; omega
      rw [this] at hsl
      exact hsl
    refine st_box h13 rfl rfl hN.one fun w8 h14 => ?_
    refine h14.ldn0 (c := [i64 ((7 : Nat) : Int), str t, i64 (q : Int), i64 ((0 : Nat) : Int), .slice none 0 0, v']) rfl ?_
    have h15 : Sat g2 w8 ((p, prs v1 d) :: H) := by
      have := (h14.tail.tail).perm (List.Perm.refl _)
      exact (this.swap2).tail
    exact hok _ _ hm' g2 _ v1 w8 (hg1.trans hg2) hN (hT1.mono hg2) hl1 h15
  · intro g1 v1 d1 w3 hg1 h4
    exact hbad q e hq g1 v1 d1 w3 hg1 (h4.sub (fun x hx => by
      simp only [List.mem_cons] at hx ⊢
      rcases hx with rfl | hx
      · exact .inl rfl
      · exact .inr (.inr (.inr hx))) (by
      have := h4.nodup
      simp only [List.map_cons, List.nodup_cons, List.mem_cons, not_or] at this ⊢
      exact ⟨this.1.2.2, this.2.2.2⟩))

theorem Bad.drop {p : Nat} {q e : Nat} {x : Nat × Obj} (h : Bad g R p H q e) : Bad g R p (x :: H) q e := fun g1 v1 d1 w1 hg h1 => h g1 v1 d1 w1 hg (Sat.tail h1.swap2)
theorem Bad.mono {p : Nat} {q e : Nat} {g' : G} (hg : g.le g') (h : Bad g R p H q e) : Bad g' R p H q e := fun g1 v1 d1 w1 hg1 h1 => h g1 v1 d1 w1 (hg.trans hg1) h1

/-- Messages of a kind to what is read. -/
theorem c_chain {f : Nat} (hm : ∀ f' ≤ f, CN F.tree_parser_message (msg f')) {rd : Nat → List Tok → Res (Node × Bool)} {fnR : Nat} (hrd : CB fnR rd) {p d k : Nat} {once : Bool} {l : List Tok} {v : Value} (hd40 : d ≤ 40) (hl : WFL l) (hT : TS g v l) (hS : Sat g w ((p, prs v d) :: H))
    (hno : ((rd d l).andThen fun np l1 => chainL f d k once np.1 np.2 l1) ≠ .out)
    (hok : ∀ n b l', ((rd d l).andThen fun np l1 => chainL f d k once np.1 np.2 l1) = .ok (n, b) l' → OkB g R p d H n b l')
    (hbad : ∀ q e, ((rd d l).andThen fun np l1 => chainL f d k once np.1 np.2 l1) = .bad q e → Bad g R p H q e) :
    Tr P F.tree_parser_chain [ptr p 0, i64 (k : Int), .bool once, .func (.func fnR) #[ptr p 0] #[]] w R := by
  apply t_tree_parser_chain
  unfold d_tree_parser_chain
  refine hS.al fun b8 w1 h1 => ?_
  have h1 : Sat g w1 ((p, prs v d) :: (b8, box zN) :: H) := h1.swap2
  simp only [↓E2, List.append_nil, List.nil_append]
  refine hrd hd40 hl hT h1 (andThen_not_out hno) (fun n b l1 hr => ?_) (fun q e hq => ?_)
  · rw [hr] at hno hok hbad
    simp only [andThen_eq_ok] at hno hok hbad
    intro g1 c v1 w2 hg1 hc hT1 hl1 h2
    simp only [↓E1, ↓E2, ↓E3]
    refine h2.al fun b10 w3 h3 => ?_
    refine st_box h3 hc.len rfl hc.one fun w4 h4 => ?_
    have h4 : Sat g1 w4 ((p, prs v1 d) :: (b10, box c) :: (b8, box zN) :: H) := h4.swap2
    refine lp1 (fun m x w => ∃ g1 c n b l1 v1 f1, g.le g1 ∧ x = .bool b ∧ NodeR g1 c n ∧ TS g1 v1 l1 ∧ WFL l1 ∧ m = l1.length ∧ f1 ≤ f ∧ chainL f1 d k once n b l1 ≠ .out ∧ (∀ n' b' l', chainL f1 d k once n b l1 = .ok (n', b') l' → OkB g R p d H n' b' l') ∧ (∀ q e, chainL f1 d k once n b l1 = .bad q e → Bad g R p H q e) ∧
      Sat g1 w ((p, prs v1 d) :: (b10, box c) :: (b8, box zN) :: H)) l1.length ⟨g1, c, n, b, l1, v1, f, hg1, rfl, hc, hT1, hl1, rfl, Nat.le_refl _, hno, hok, hbad, h4⟩ ?_
    clear h4 h3 h2 hc hT1 hl1 hno hok hbad hr hg1
    rintro m x w5 ⟨g1, c, n, b, l1, v1, f1, hg1, rfl, hc, hT1, hl1, rfl, hf1, hno, hok, hbad, h5⟩
    obtain ⟨f2, rfl⟩ : ∃ f2, f1 = f2 + 1 := by
      cases f1 with
      | zero => simp [chainL] at hno
      | succ f2 => exact ⟨f2, rfl⟩
    simp only [chainL] at hno hok hbad
    refine c_kind hl1 hT1 h5 ?_
    simp only [↓E1, ↓E2, ↓E3]
    rw [cnd_dec]
    constructor
    · intro hk
      have hb : Nat.beq (kd l1) k = true := by
        have : kd l1 = k := by omega
        rw [this]; exact Nat.beq_refl _
      rw [hb] at hno hok hbad
      simp only [cond_true] at hno hok hbad
      refine h5.swap2.ldn0 (c := c) hc.len.symm ?_
      refine c_sent (hm f2 (by omega)) hd40 hl1 hT1 hc h5 (andThen_not_out hno) (fun m1 l2 hm1 => ?_) (fun q e hq => ?_)
      · rw [hm1] at hno hok hbad
        simp only [andThen_eq_ok] at hno hok hbad
        intro g2 c2 v2 w6 hg2 hc2 hT2 hl2 h6
        simp only [↓E3]
        refine st_box h6.swap2 hc2.len hc.len hc2.one fun w7 h7 => ?_
        have h7' : Sat g2 w7 ((b10, box c2) :: (b8, box zN) :: (p, prs v2 d) :: H) := h7.perm (.cons _ (List.Perm.swap _ _ _))
        rw [cnd_eq]
        constructor
        · intro ho
          subst ho
          simp only [cond_true] at hok
          refine ret_box h7' hc2.len rfl hc2.one fun w8 h8 => ?_
          exact hok _ _ _ rfl g2 c2 v2 w8 (hg1.trans hg2) hc2 hT2 hl2 h8
        · intro ho
          subst ho
          simp only [cond_false] at hno hok hbad
          have := (prog f2).msg hm1
          exact ⟨l2.length, this, _, rfl, g2, c2, _, true, l2, v2, f2, hg1.trans hg2, rfl, hc2, hT2, hl2, rfl, by omega, hno, hok, hbad, h7.swap2⟩
      · rw [hq] at hbad
        exact ((hbad _ _ rfl).drop.drop).mono hg1
    · intro hk
      have hb : Nat.beq (kd l1) k = false := by
        cases hb : Nat.beq (kd l1) k with
        | false => rfl
        | true => exact absurd (by have := Nat.eq_of_beq_eq_true hb; omega) hk
      rw [hb] at hok
      simp only [cond_false] at hok
      have h7' : Sat g1 w5 ((b10, box c) :: (b8, box zN) :: (p, prs v1 d) :: H) := h5.perm (List.perm_middle (l₁ := [(b10, _), (b8, _)])).symm
      refine ret_box h7' hc.len rfl hc.one fun w8 h8 => ?_
      exact hok _ _ _ rfl g1 c v1 w8 hg1 hc hT1 hl1 h8
  · rw [hq] at hbad
    exact (hbad _ _ rfl).drop

theorem c_lev {f : Nat} (hm : ∀ f' ≤ f, CN F.tree_parser_message (msg f')) {rd : Nat → List Tok → Res (Node × Bool)} {fnR : Nat} (hrd : CB fnR rd) {k : Nat} {once : Bool} {fn : Nat}
    (ht : ∀ {R : Ending → World → Prop} {p : Nat} {w : World}, (al zN 50 (fun t2 w => cl P F.tree_parser_chain [ptr p 0, i64 (k : Int), .bool once, .func (.func fnR) #[ptr p 0] #[]] (fun t7 w => ex t7 0 (fun t8 w => ex t7 1 (fun t9 w => st 6 t2 t8 (fun w => ldn 6 t2 (fun r0 w =>
      R (.returned (.tuple #[r0, t9])) w) w) w) w) w) (fun ch w => R (.panicked ch) w) w) w) → Tr P fn [ptr p 0] w R) : CB fn (fun d l => (rd d l).andThen fun np l1 => chainL f d k once np.1 np.2 l1) := by
  intro p d l v g w H R hd40 hl hT hS hno hok hbad
  refine ht (hS.al fun b2 w1 h1 => ?_)
  have h1 : Sat g w1 ((p, prs v d) :: (b2, box zN) :: H) := h1.swap2
  simp only [↓E2]
  refine c_chain hm hrd hd40 hl hT h1 hno (fun n b l' hr => ?_) (fun q e hq => (hbad q e hq).drop)
  intro g1 c v1 w2 hg1 hc hT1 hl1 h2
  simp only [↓E1, ↓E2, ↓E3]
  refine st_box h2.swap2 hc.len rfl hc.one fun w3 h3 => ?_
  refine h3.ldn0 (c := c) hc.len.symm ?_
  exact hok n b l' hr g1 c v1 w3 hg1 hc hT1 hl1 h3.tail

theorem unary_eq (f : Nat) : unary (f + 1) = fun d l => (prim f d l).andThen fun np l1 => chainL f d 1 false np.1 np.2 l1 := by funext d l; simp only [unary]
theorem binary_eq (f : Nat) : binary (f + 1) = fun d l => (unary f d l).andThen fun np l1 => chainL f d 3 false np.1 np.2 l1 := by funext d l; simp only [binary]
theorem keyed_eq (f : Nat) : keyed (f + 1) = fun d l => (binary f d l).andThen fun np l1 => chainL f d 2 true np.1 np.2 l1 := by funext d l; simp only [keyed]
theorem k_unary {f : Nat} (ih : ∀ f' ≤ f, AllOK f') : CB F.tree_parser_unary (unary (f + 1)) := by
  rw [unary_eq]
  exact c_lev (fun f' h => (ih f' h).msg) (ih f (Nat.le_refl _)).prim (fun h => t_tree_parser_unary _ _ _ h)
theorem k_binary {f : Nat} (ih : ∀ f' ≤ f, AllOK f') : CB F.tree_parser_binary (binary (f + 1)) := by
  rw [binary_eq]
  exact c_lev (fun f' h => (ih f' h).msg) (ih f (Nat.le_refl _)).unary (fun h => t_tree_parser_binary _ _ _ h)
theorem k_keyed {f : Nat} (ih : ∀ f' ≤ f, AllOK f') : CB F.tree_parser_keyed (keyed (f + 1)) := by
  rw [keyed_eq]
  exact c_lev (fun f' h => (ih f' h).msg) (ih f (Nat.le_refl _)).binary (fun h => t_tree_parser_keyed _ _ _ h)
end Go.Vx
namespace Go.Vx
open Go Go.Proofs
variable {R : Ending → World → Prop} {g : G} {w : World} {H hp : Hp}

theorem Sat.pull {A : Hp} (h : Sat g w (A ++ (hp ++ H))) : Sat g w (hp ++ (A ++ H)) := h.perm (List.perm_append_comm_assoc A hp H)
theorem Sat.pull1 {A : Hp} {x : Nat × Obj} (h : Sat g w (x :: (A ++ (hp ++ H)))) : Sat g w (x :: (hp ++ (A ++ H))) := h.perm (.cons _ (List.perm_append_comm_assoc A hp H))
theorem Sat.drop1 {A : Hp} {x : Nat × Obj} (h : Sat g w (x :: (A ++ H))) : Sat g w (x :: H) := Sat.drop (A := A) (h.perm List.perm_middle.symm)

abbrev tbx (t : Tok) : Obj := .cells (tokCells t).toArray Ty.lex_Tok

theorem TS.ldHd {v : Value} {l : List Tok} (hT : TS g v l) (hl : WFL l) (hS : Sat g w H) {K : Value → World → Prop} (hk : K (tokV (hd l)) w) : ia 3 v (i64 0) (fun t w => ldn 3 t K w) w := by
  refine TS.at hT (j := 0) hS hl.hd.1 fun b o c0 c1 c2 => ?_
  refine hS.ldnI (vs := tokCells (hd l)) (fun j x hx => ?_) hk
  match j, hx with
  | 0, hx => simp [tokCells] at hx; subst hx; exact c0
  | 1, hx => simp [tokCells] at hx; subst hx; exact c1
  | 2, hx => simp [tokCells] at hx; subst hx; exact c2
  | j + 3, hx => simp [tokCells] at hx

theorem fl_tok (t : Tok) (K : Value → World → Prop) (w : World) : fl false 1 1 (tokV t) K w = K (str t.text) w := by rw [fl_eq]; rfl

/-- A block of one's own, all of which is a slice, stays. -/
theorem Sat.frz {b n sz : Nat} {ys : List Value} {e : TypeId} (h : Sat g w ((b, .cells ys.toArray e) :: H)) (hl : ys.length = n * sz) (hn : 0 < n) : ∃ g', g.le g' ∧ Sat g' w H ∧ Sl g' sz (.slice (some ⟨b, 0, none⟩) n n) n ys := by
  have h' : Sat g w ([(b, .cells (ys ++ []).toArray e)] ++ H) := by simpa using h
  exact (Grow.some (e := e) (b := b) (c := n) (ex := []) hl (by simp) (Nat.le_refl _) hn).freeze h'

theorem fill1 {c : List Value} {z : List Value} (hc : c.length = 6) (hz : z.length = 6) : fillV ((List.range (1 * z.length)).map (fun i => z.getD (i % z.length) undef)) [(0, 6, .agg c.toArray)] = some c := by
  simp only [fillV, Value.cells]
  rw [wr0 c _ (by simp [hz, hc])]
  simp [hc, hz]

theorem kd_of {l : List Tok} {k : Nat} (h : ((hd l).kind : Int) = (k : Int)) : Nat.beq (kd l) k = true := by
  have : kd l = k := by unfold kd; omega
  rw [this]; exact Nat.beq_refl _
theorem kd_not {l : List Tok} {k : Nat} (h : ¬ ((hd l).kind : Int) = (k : Int)) : Nat.beq (kd l) k = false := by
  cases hb : Nat.beq (kd l) k with
  | false => rfl
  | true => exact absurd (by have := Nat.eq_of_beq_eq_true hb; unfold kd at this; omega) h

theorem bad_syn {p d : Nat} {q e : Nat} {v : Value} (hbad : Bad g R p H q e) (hS : Sat g w ((p, prs v d) :: H)) : R (.panicked (stopE q e)) w := hbad g v d w (.refl g) hS

theorem k_msg {f : Nat} (ih : ∀ f' ≤ f, AllOK f') : CN F.tree_parser_message (msg (f + 1)) := by
  intro p d l v g w H R hd40 hl hT hS hno hok hbad
  simp only [msg] at hno hok hbad
  apply t_tree_parser_message
  unfold d_tree_parser_message
  refine hS.al fun b2 w1 h1 => ?_
  have h1 : Sat g w1 ((p, prs v d) :: (b2, box zN) :: H) := h1.swap2
  simp only [↓E1, ↓E2, ↓E3, ↓h1.ld0, Nat.reduceAdd, Nat.reduceLT]
  refine hT.ldHd hl h1 ?_
  refine h1.al fun b3 w2 h2 => ?_
  refine h2.st (c := [i64 0, str [], i64 0]) rfl (by simp) rfl fun w3 h3 => ?_
  have h3 : Sat g w3 ((b3, tbx (hd l)) :: (p, prs v d) :: (b2, box zN) :: H) := h3
  simp only [↓E1, Nat.reduceAdd]
  rw [h3.ld0 2 _ (by simp [tokCells])]
  refine bdI (cs := [i64 ((9 : Nat) : Int), str [], i64 ((hd l).pos : Int), i64 ((0 : Nat) : Int), .slice none 0 0, .slice none 0 0]) rfl ?_
  refine h3.al fun b4 w4 h4 => ?_
  refine st_box (c2 := zN) h4 rfl rfl rfl fun w5 h5 => ?_
  rw [h5.ld1 0 _ (by simp [tokCells])]
  have h6 : Sat g w5 ((p, prs v d) :: (b4, box [i64 ((9 : Nat) : Int), str [], i64 ((hd l).pos : Int), i64 ((0 : Nat) : Int), .slice none 0 0, .slice none 0 0]) :: (b3, tbx (hd l)) :: (b2, box zN) :: H) :=
    h5.perm (List.perm_middle (l₁ := [(b4, _), (b3, _)]))
  clear h1 h2 h3 h4 h5
  simp only [tokCells, ↓E1, ↓E3]
  -- at the end
  have fin : ∀ (c : List Value) (n : Node) (l' : List Tok) (g1 : G) (v1 : Value) (w6 : World) (x : Obj), OkN g R p d H n l' → g.le g1 → NodeR g1 c n → TS g1 v1 l' → WFL l' → Sat g1 w6 ((p, prs v1 d) :: (b4, box c) :: (b3, x) :: (b2, box zN) :: H) →
      ldn 6 (ptr b4 0) (fun t w => st 6 (ptr b2 0) t (fun w => ldn 6 (ptr b2 0) (fun r0 w => R (.returned r0) w) w) w) w6 := by
    intro c n l' g1 v1 w6 x hk hg1 hc hT1 hl1 h
    have h' : Sat g1 w6 ((b4, box c) :: (b2, box zN) :: (b3, x) :: (p, prs v1 d) :: H) := h.perm (by
      refine (List.Perm.swap _ _ _).trans (.cons _ ?_)
      exact (List.perm_append_comm (l₁ := [(p, prs v1 d)]) (l₂ := [(b3, x), (b2, box zN)])).append_right H |>.trans (List.Perm.swap _ _ _))
    refine ret_box h' hc.len rfl hc.one fun w7 h7 => ?_
    exact hk g1 c v1 w7 hg1 hc hT1 hl1 h7.tail
  rw [cnd_dec]
  constructor
  · intro hk
    have hb := kd_of (k := 1) hk
    rw [hb] at hok
    simp only [cond_true] at hok
    refine c_take hl hT h6 fun v' w6 hT' h7 => ?_
    simp only [↓E3, fl_tok]
    refine h7.swap2.st rfl (by simp) rfl fun w8 h8 => ?_
    have h8 : Sat g w8 ((b4, box [i64 ((9 : Nat) : Int), str (hd l).text, i64 ((hd l).pos : Int), i64 ((0 : Nat) : Int), .slice none 0 0, .slice none 0 0]) :: (p, prs v' d) :: (b3, tbx (hd l)) :: (b2, box zN) :: H) := h8
    exact fin _ _ _ g v' w8 _ (hok _ _ rfl) (.refl g) (nodeR_leaf g 9 _ _) hT' hl.tk h8.swap2
  intro hk1
  have hb1 := kd_not (k := 1) hk1
  rw [hb1] at hno hok hbad
  simp only [cond_false] at hno hok hbad
  rw [cnd_dec]
  constructor
  · intro hk
    have hb := kd_of (k := 3) hk
    rw [hb] at hno hok hbad
    simp only [cond_true] at hno hok hbad
    refine c_take hl hT h6 fun v' w6 hT' h7 => ?_
    simp only [↓E3, fl_tok]
    refine h7.swap2.st rfl (by simp) rfl fun w8 h8 => ?_
    have h8 : Sat g w8 ((p, prs v' d) :: (b4, box [i64 ((9 : Nat) : Int), str (hd l).text, i64 ((hd l).pos : Int), i64 ((0 : Nat) : Int), .slice none 0 0, .slice none 0 0]) :: (b3, tbx (hd l)) :: (b2, box zN) :: H) := Sat.swap2 h8
    refine (ih f (Nat.le_refl _)).unary hd40 hl.tk hT' h8 (andThen_not_out hno) (fun n b l1 hr => ?_) (fun q e hq => ?_)
    · rw [hr] at hok
      simp only [andThen_eq_ok] at hok
      intro g1 c v1 w9 hg1 hc hT1 hl1 h9
      simp only [↓E2, ↓E3]
      refine h9.al fun b5 w10 h10 => ?_
      refine st_box (c2 := zN) h10 hc.len rfl hc.one fun w11 h11 => ?_
      refine h11.ldn0 (c := c) hc.len.symm ?_
      refine h11.bs (fill1 (z := zN) hc.len rfl) fun b6 w12 h12 => ?_
      obtain ⟨g2, hg2, h13, hsl⟩ := Sat.frz (n := 1) (sz := 6) h12 (by simp [hc.len]) (by omega)
      refine h13.tail.swap2.st rfl (by simp) rfl fun w14 h14 => ?_
      have h14 : Sat g2 w14 ((b4, box [i64 ((9 : Nat) : Int), str (hd l).text, i64 ((hd l).pos : Int), i64 ((0 : Nat) : Int), .slice none 0 0, .slice (some ⟨b6, 0, none⟩) 1 1]) :: (p, prs v1 d) :: (b3, tbx (hd l)) :: (b2, box zN) :: H) := h14
      refine fin _ _ _ g2 v1 w14 _ (hok _ _ rfl) (hg1.trans hg2) ?_ (hT1.mono hg2) hl1 h14.swap2
      have hkr := KR.nil.cons (hc.mono hg2)
      exact .mk (kcs := [c]) (Sl.nil g2 1) (by simpa using hsl) hkr.1 hkr.2
    · rw [hq] at hbad
      exact (hbad _ _ rfl).drop.drop.drop
  intro hk3
  have hb3 := kd_not (k := 3) hk3
  rw [hb3] at hno hok hbad
  simp only [cond_false] at hno hok hbad
  rw [cnd_dec]
  constructor
  · intro hk
    have hb := kd_of (k := 2) hk
    rw [hb] at hno hok hbad
    simp only [cond_true] at hno hok hbad
    have hl97 := hl.len
    refine lp0 (fun m w => ∃ g1 l1 v1 text kids kcs kv hp f1, g.le g1 ∧ TS g1 v1 l1 ∧ WFL l1 ∧ m = l1.length ∧ f1 ≤ f ∧ text.length + 4096 * l1.length ≤ 20000000 ∧ kids.length + l1.length ≤ 5000 ∧ KR g1 kcs kids ∧ Grow 50 6 kv kids.length kcs.flatten hp ∧
      msgL f1 d (hd l).pos text kids l1 ≠ .out ∧ (∀ n l', msgL f1 d (hd l).pos text kids l1 = .ok n l' → OkN g R p d H n l') ∧ (∀ q e, msgL f1 d (hd l).pos text kids l1 = .bad q e → Bad g R p H q e) ∧
      Sat g1 w ((p, prs v1 d) :: (b4, box [i64 ((9 : Nat) : Int), str text, i64 ((hd l).pos : Int), i64 ((0 : Nat) : Int), .slice none 0 0, kv]) :: (b3, tbx (hd l)) :: (b2, box zN) :: (hp ++ H))) rfl l.length
      ⟨g, l, v, [], [], [], _, [], f, .refl g, hT, hl, rfl, Nat.le_refl _, by simp; omega, by simp; omega, .nil, .nil, hno, hok, hbad, h6⟩ ?_
    rintro m w6 ⟨g1, l1, v1, text, kids, kcs, kv, hp, f1, hg1, hT1, hl1, rfl, hf1, htx, hks, hkr, hgr, hno, hok, hbad, h7⟩
    obtain ⟨f2, rfl⟩ : ∃ f2, f1 = f2 + 1 := by
      cases f1 with
      | zero => simp [msgL] at hno
      | succ f2 => exact ⟨f2, rfl⟩
    simp only [msgL] at hno hok hbad
    simp only [↓E2]
    refine c_kind hl1 hT1 h7 ?_
    simp only [↓E1, ↓E2, ↓E3]
    rw [cnd_dec]
    constructor
    · intro hk
      have hb := kd_of (k := 2) hk
      rw [hb] at hno hok hbad
      simp only [cond_true] at hno hok hbad
      have h8 := h7.drew
      simp only [↓h8.ld1, ↓E3, Nat.reduceAdd, Nat.reduceLT]
      refine c_take hl1 hT1 h8 fun v2 w9 hT2 h9 => ?_
      simp only [↓E3, fl_tok, bS_add]
      refine h9.rk (b := b4) (t := 50) (fr := (0, 0)) (c := [i64 ((9 : Nat) : Int), str text, i64 ((hd l).pos : Int), i64 ((0 : Nat) : Int), .slice none 0 0, kv]) (by simp) rfl ?_
      have htl := hl1.hd.2
      have hlt := tk_lt hb (by decide)
      refine ⟨by omega, ?_⟩
      have hone : one kv = true := by rcases hgr.inv with ⟨rfl, _⟩ | ⟨_, _, _, rfl, _⟩ <;> rfl
      refine h9.swap2.st rfl (by simp) rfl fun w10 h10 => ?_
      have h10 : Sat g1 w10 ((p, prs v2 d) :: (b4, box [i64 ((9 : Nat) : Int), str (text ++ (hd l1).text), i64 ((hd l).pos : Int), i64 ((0 : Nat) : Int), .slice none 0 0, kv]) :: (b3, tbx (hd l)) :: (b2, box zN) :: (hp ++ H)) := Sat.swap2 h10
      refine (ih f2 (by omega)).binary hd40 hl1.tk hT2 h10 (andThen_not_out hno) (fun n b l2 hr => ?_) (fun q e hq => ?_)
      · rw [hr] at hno hok hbad
        simp only [andThen_eq_ok] at hno hok hbad
        intro g2 c v3 w11 hg2 hc hT3 hl3 h11
        have hlt2 := ((prog f2).binary hr).1
        simp only [↓E2, ↓E3]
        refine h11.al fun b7 w12 h12 => ?_
        refine st_box (c2 := zN) h12 hc.len rfl hc.one fun w13 h13 => ?_
        rw [h13.ld2 5 _ (by simp)]
        simp only [↓E3]
        refine h13.ldn0 (c := c) hc.len.symm ?_
        refine h13.bs (fill1 (z := zN) hc.len rfl) fun b6 w14 h14 => ?_
        have h15 : Sat g2 w14 ((b6, .cells c.toArray 50) :: (hp ++ ((p, prs v3 d) :: (b4, box [i64 ((9 : Nat) : Int), str (text ++ (hd l1).text), i64 ((hd l).pos : Int), i64 ((0 : Nat) : Int), .slice none 0 0, kv]) :: (b3, tbx (hd l)) :: (b2, box zN) :: H))) := by
          exact Sat.pull1 (A := [(p, _), (b4, _), (b3, _), (b2, _)]) (h14.swap2.tail)
        refine Sat.ap1 (m := 1) (c := 1) h15 hgr rfl (by simp [hc.len]) hc.one (by omega) (by omega) fun kv' hp2 w16 hg16 h16 => ?_
        have h17 : Sat g2 w16 ((b4, box [i64 ((9 : Nat) : Int), str (text ++ (hd l1).text), i64 ((hd l).pos : Int), i64 ((0 : Nat) : Int), .slice none 0 0, kv]) :: (p, prs v3 d) :: (b3, tbx (hd l)) :: (b2, box zN) :: (hp2 ++ H)) := by
          exact Sat.swap2 (Sat.pull (A := hp2) (hp := [(p, _), (b4, _), (b3, _), (b2, _)]) h16)
        have hone' : one kv' = true := by rcases hg16.inv with ⟨rfl, _⟩ | ⟨_, _, _, rfl, _⟩ <;> rfl
        refine h17.st (by rcases hg16.inv with ⟨rfl, _⟩ | ⟨_, _, _, rfl, _⟩ <;> rfl) (by simp) (by rcases hg16.inv with ⟨rfl, _⟩ | ⟨_, _, _, rfl, _⟩ <;> rfl) fun w18 h18 => ?_
        have e : wr [i64 ((9 : Nat) : Int), str (text ++ (hd l1).text), i64 ((hd l).pos : Int), i64 ((0 : Nat) : Int), .slice none 0 0, kv].toArray 5 kv'.cells.toList = [i64 ((9 : Nat) : Int), str (text ++ (hd l1).text), i64 ((hd l).pos : Int), i64 ((0 : Nat) : Int), .slice none 0 0, kv'].toArray := by
          rcases hg16.inv with ⟨rfl, _⟩ | ⟨_, _, _, rfl, _⟩ <;> rfl
        rw [e] at h18
        refine ⟨l2.length, by omega, trivial, g2, l2, v3, text ++ (hd l1).text, kids ++ [n], kcs ++ [c], kv', hp2, f2, hg1.trans hg2, hT3, hl3, rfl, by omega, ?_, ?_, (hkr.mono hg2).snoc hc, ?_, hno, hok, hbad, h18.swap2⟩
        · simp only [List.length_append]; omega
        · simp only [List.length_append, List.length_cons, List.length_nil]; omega
        · simpa using hg16
      · rw [hq] at hbad
        have hb0 := ((hbad _ _ rfl).mono hg1)
        intro g2 v3 d3 w11 hg2 h11
        exact hb0 g2 v3 d3 w11 hg2 (Sat.drop1 (A := (b4, _) :: (b3, _) :: (b2, _) :: hp) h11)
    · intro hk
      have hb := kd_not (k := 2) hk
      rw [hb] at hok
      simp only [cond_false] at hok
      have h8 : Sat g1 w6 (hp ++ ((p, prs v1 d) :: (b4, box [i64 ((9 : Nat) : Int), str text, i64 ((hd l).pos : Int), i64 ((0 : Nat) : Int), .slice none 0 0, kv]) :: (b3, tbx (hd l)) :: (b2, box zN) :: H)) := by
        exact Sat.pull (A := [(p, _), (b4, _), (b3, _), (b2, _)]) h7
      obtain ⟨g2, hg2, h9, hsl⟩ := hgr.freeze h8
      have hkr2 := hkr.mono hg2
      exact fin _ _ _ g2 v1 w6 _ (hok _ _ rfl) (hg1.trans hg2) (.mk (Sl.nil g2 1) hsl hkr2.1 hkr2.2) (hT1.mono hg2) hl1 h9
  · intro hk2
    have hb2 := kd_not (k := 2) hk2
    rw [hb2] at hbad
    simp only [cond_false, syn] at hbad
    refine c_bad hl hT h6 ?_
    exact hbad _ _ rfl g v d w5 (.refl g) (Sat.tail (Sat.swap2 (Sat.tail (Sat.swap2 (Sat.tail (Sat.swap2 h6))))))
end Go.Vx
namespace Go.Vx
open Go Go.Proofs
variable {R : Ending → World → Prop} {g : G} {w : World} {H hp : Hp}

theorem Sat.del {A B : Hp} {x : Nat × Obj} (h : Sat g w (A ++ x :: B)) : Sat g w (A ++ B) := (h.perm List.perm_middle).tail

theorem Sat.rkA (h : Sat g w H) {b : Nat} {c : List Value} {t : TypeId} {fr : Nat × Nat} (hb : (b, .cells c.toArray t fr) ∈ H) {p : Prop} (hp : p) : Vx.rk true (ptr b 0) (.agg c.toArray) p w :=
  ⟨⟨_, _, rfl, rfl, fun j v hv => by rw [add_plain, Nat.zero_add]; exact h.cellH hb (by simpa using hv)⟩, hp⟩
theorem Sat.rkAI (h : Sat g w H) {b o : Nat} {c : List Value} (hc : ∀ j x, c[j]? = some x → g.cell? b (o + j) = some x) {p : Prop} (hp : p) : Vx.rk true (ptr b o) (.agg c.toArray) p w :=
  ⟨⟨_, _, rfl, rfl, fun j v hv => by rw [add_plain]; exact h.cellI (hc j v (by simpa using hv))⟩, hp⟩

theorem Sl.head6 {kv : Value} {kcs : List (List Value)} {k : Node} {ks : List Node} {c : List Value} (h : Sl g 6 kv (k :: ks).length (c :: kcs).flatten) (hc : c.length = 6) (hS : Sat g w H) {K : Value → World → Prop}
    (hk : ∀ b o, (∀ q x, c[q]? = some x → g.cell? b (o + q) = some x) → K (ptr b o) w) : ia 6 kv (i64 0) K w := by
  refine Sl.at h hS (j := 0) (by simp) (by decide) fun b o hq => hk b o fun q x hx => ?_
  refine hq q x ?_
  have : q < 6 := by
    have := (List.getElem?_eq_some_iff.1 hx).1
    omega
  simp only [Nat.zero_mul, List.drop_zero, List.flatten_cons]
  rw [List.getElem?_take, if_pos this, List.getElem?_append_left (by omega)]
  exact hx

theorem fill2 {c c' : List Value} (hc : c.length = 6) (hc' : c'.length = 6) : fillV ((List.range (2 * zN.length)).map (fun i => zN.getD (i % zN.length) undef)) [(0, 6, .agg c.toArray), (6, 6, .agg c'.toArray)] = some (c ++ c') := by
  have hX : ((List.range (2 * zN.length)).map (fun i => zN.getD (i % zN.length) undef)).length = 12 := by simp [zN]
  generalize (List.range (2 * zN.length)).map (fun i => zN.getD (i % zN.length) undef) = X at hX
  have e1 : wr X.toArray 0 (Value.agg c.toArray).cells.toList = (c ++ X.drop 6).toArray := by have := wr0 c X (by omega); rw [hc] at this; exact this
  have e2 : wr (c ++ X.drop 6).toArray 6 (Value.agg c'.toArray).cells.toList = (c ++ c').toArray := by
    have := wr_app c' c (X.drop 6) (by rw [List.length_drop]; omega)
    have hd : (X.drop 6).drop c'.length = [] := by rw [List.drop_drop, hc']; exact List.drop_eq_nil_of_le (by omega)
    rw [hc, hd, List.append_nil] at this
    exact this
  have s1 : (Nat.beq (Value.agg c.toArray).cells.size 6 && Nat.ble (0 + 6) X.length) = true := by simp [Value.cells, hc, hX]
  have s2 : (Nat.beq (Value.agg c'.toArray).cells.size 6 && Nat.ble (6 + 6) (c ++ X.drop 6).length) = true := by simp [Value.cells, hc, hc', hX]
  simp only [fillV, s1, e1, s2, e2]

theorem casc_plain {f d : Nat} {l l1 : List Tok} {n : Node} {b : Bool} (h : keyed f d l = .ok (n, b) l1) (hk : n.kind = 7) : n.kids ≠ [] := ((prog f).keyed h).2 hk

theorem k_casc {f : Nat} (ih : ∀ f' ≤ f, AllOK f') : CN F.tree_parser_cascade (casc (f + 1)) := by
  intro p d l v g w H R hd40 hl hT hS hno hok hbad
  simp only [casc] at hno hok hbad
  apply t_tree_parser_cascade
  unfold d_tree_parser_cascade
  refine hS.al fun b2 w1 h1 => ?_
  have h1 : Sat g w1 ((p, prs v d) :: (b2, box zN) :: H) := h1.swap2
  simp only [↓E2]
  refine (ih f (Nat.le_refl _)).keyed hd40 hl hT h1 (andThen_not_out hno) (fun n b l1 hr => ?_) (fun q e hq => ?_)
  rotate_left
  · rw [hq] at hbad
    exact (hbad _ _ rfl).drop
  have hsend := casc_plain hr
  have hlt := ((prog f).keyed hr).1
  rw [hr] at hno hok hbad
  simp only [andThen_eq_ok] at hno hok hbad
  intro g1 c v1 w2 hg1 hc hT1 hl1 h2
  simp only [↓E2, ↓E3]
  refine h2.al fun b3 w3 h3 => ?_
  refine st_box (c2 := zN) h3 hc.len rfl hc.one fun w4 h4 => ?_
  have h4 : Sat g1 w4 ((p, prs v1 d) :: (b3, box c) :: (b2, box zN) :: H) := h4.swap2
  refine c_kind hl1 hT1 h4 ?_
  simp only [↓E1, ↓E2, ↓E3]
  rw [cnd_ndec]
  constructor
  · intro hk
    have hb := kd_not (l := l1) (k := 15) hk
    rw [hb] at hok
    simp only [cond_false] at hok
    have h5 : Sat g1 w4 ((b3, box c) :: (b2, box zN) :: (p, prs v1 d) :: H) := h4.perm (List.perm_middle (l₁ := [(b3, _), (b2, _)])).symm
    refine ret_box h5 hc.len rfl hc.one fun w6 h6 => ?_
    exact hok _ _ rfl g1 c v1 w6 hg1 hc hT1 hl1 h6
  intro hk
  have hb := kd_of (l := l1) (k := 15) hk
  rw [hb] at hno hok hbad
  simp only [cond_true] at hno hok hbad
  cases hc with
  | @mk kd0 q nn t ns ks nv kv kcs s1 s2 s3 s4 =>
  have hN : NodeR g1 [i64 (kd0 : Int), str t, i64 (q : Int), i64 (nn : Int), nv, kv] (.mk kd0 t q nn ns ks) := .mk s1 s2 s3 s4
  refine jn0 (fun w => (Nat.beq kd0 7 && b) = true ∧ Sat g1 w ((p, prs v1 d) :: (b3, box [i64 (kd0 : Int), str t, i64 (q : Int), i64 (nn : Int), nv, kv]) :: (b2, box zN) :: H)) ?_ ?_
  · rintro w5 ⟨hkd, h5⟩
    have e : (Nat.beq (Node.mk kd0 t q nn ns ks).kind 7 && b) = true := hkd
    rw [e] at hno hok hbad
    simp only [cond_true] at hno hok hbad
    rw [Bool.and_eq_true] at hkd
    have hks : ks ≠ [] := hsend (Nat.eq_of_beq_eq_true hkd.1)
    cases ks with
    | nil => exact absurd rfl hks
    | cons k0 ks =>
    cases kcs with
    | nil => simp at s3
    | cons c0 kcs =>
    have hc0 : NodeR g1 c0 k0 := s4 0 c0 k0 rfl rfl
    have hkr : KR g1 kcs ks := ⟨by simpa using s3, fun i c k h1 h2 => s4 (i + 1) c k (by simpa using h1) (by simpa using h2)⟩
    have h6 := h5.drew
    simp only [↓E1, ↓E2, ↓E3, ↓h6.ld1, Nat.reduceAdd, Nat.reduceLT]
    obtain ⟨a, cp, rfl, hcap, hlen, hcells⟩ := id s2
    refine slL_lo 6 a _ cp _ 1 (by omega) (by simp; omega) hcap ?_
    have hfr := Sl.from1 s2 (by simp) (by decide)
    generalize hsv : Value.slice (if (cp : Int) = 1 then a else a.map (·.add ((1 : Int).toNat * 6))) ((k0 :: ks).length - (1 : Int).toNat) (cp - (1 : Int).toNat) = sv at hfr ⊢
    have hfr' : Sl g1 6 sv ks.length kcs.flatten := by
      have e2 : ((c0 :: kcs).flatten).drop 6 = kcs.flatten := by
        rw [List.flatten_cons, List.drop_append_of_le_length (by rw [hc0.len]; exact Nat.le_refl _), List.drop_eq_nil_of_le (by rw [hc0.len]; exact Nat.le_refl _)]
        rfl
      rw [e2] at hfr
      simpa using hfr
    have hF : NodeR g1 [i64 ((9 : Nat) : Int), str t, i64 (q : Int), i64 ((0 : Nat) : Int), .slice none 0 0, sv] (.mk 9 t q 0 [] ks) := .mk (Sl.nil g1 1) hfr' hkr.1 hkr.2
    refine bdI (cs := [i64 ((9 : Nat) : Int), str t, i64 (q : Int), i64 ((0 : Nat) : Int), .slice none 0 0, sv]) (by rw [← hsv]; rfl) ?_
    refine h6.al fun b5 w7 h7 => ?_
    refine h7.rk (b := b3) (t := 50) (fr := (0, 0)) (c := [i64 (kd0 : Int), str t, i64 (q : Int), i64 (nn : Int), nv, .slice a (k0 :: ks).length cp]) (by simp) rfl ?_
    refine h7.rk (b := b3) (t := 50) (fr := (0, 0)) (c := [i64 (kd0 : Int), str t, i64 (q : Int), i64 (nn : Int), nv, .slice a (k0 :: ks).length cp]) (by simp) rfl ?_
    refine h7.rk (b := b3) (t := 50) (fr := (0, 0)) (c := [i64 (kd0 : Int), str t, i64 (q : Int), i64 (nn : Int), nv, .slice a (k0 :: ks).length cp]) (by simp) rfl ?_
    refine st_box (c2 := zN) h7 rfl rfl hF.one fun w8 h8 => ?_
    have h9 := h8.drew
    simp only [↓h9.ld2, ↓E3, Nat.reduceAdd, Nat.reduceLT]
    have hl97 := hl.len
    have hk2 : KR g1 [c0, [i64 ((9 : Nat) : Int), str t, i64 (q : Int), i64 ((0 : Nat) : Int), .slice none 0 0, sv]] [k0, .mk 9 t q 0 [] ks] := (KR.nil.cons hF).cons hc0
    constructor
    case' left =>
      refine s2.head6 hc0.len h9 fun bb oo hcell => ?_
      rw [show (6 : Nat) = c0.length from hc0.len.symm]
      refine h9.ldnI (vs := c0) hcell ?_
      rw [hc0.len]
      refine h9.ldn0 (c := [i64 ((9 : Nat) : Int), str t, i64 (q : Int), i64 ((0 : Nat) : Int), .slice none 0 0, sv]) rfl ?_
      refine h9.bs (fill2 hc0.len rfl) fun b7 w10 h10 => ?_
      refine h10.rk (b := b3) (t := 50) (fr := (0, 0)) (c := [i64 (kd0 : Int), str t, i64 (q : Int), i64 (nn : Int), nv, .slice a (k0 :: ks).length cp]) (by simp) rfl ?_
      refine bdI (cs := [i64 ((8 : Nat) : Int), str [], i64 (q : Int), i64 ((0 : Nat) : Int), .slice none 0 0, .slice (some ⟨b7, 0, none⟩) 2 2]) rfl ?_
      refine h10.al fun b6 w11 h11 => ?_
      refine h11.rk (b := b3) (t := 50) (fr := (0, 0)) (c := [i64 (kd0 : Int), str t, i64 (q : Int), i64 (nn : Int), nv, .slice a (k0 :: ks).length cp]) (by simp) rfl ?_
      refine st_box (c2 := zN) h11 rfl rfl rfl fun w20 h20 => ?_
    case' right =>
      refine s2.head6 hc0.len h9 fun bb oo hcell => ?_
      rw [show (6 : Nat) = c0.length from hc0.len.symm]
      refine h9.ldnI (vs := c0) hcell ?_
      rw [hc0.len]
      refine h9.ldn0 (c := [i64 ((9 : Nat) : Int), str t, i64 (q : Int), i64 ((0 : Nat) : Int), .slice none 0 0, sv]) rfl ?_
      refine h9.al fun b6 w10 h10 => ?_
      refine h10.rkA (b := b5) (t := 50) (fr := (0, 0)) (c := [i64 ((9 : Nat) : Int), str t, i64 (q : Int), i64 ((0 : Nat) : Int), .slice none 0 0, sv]) (by simp) ?_
      refine h10.rkAI (c := c0) hcell ?_
      refine h10.rk (b := b3) (t := 50) (fr := (0, 0)) (c := [i64 (kd0 : Int), str t, i64 (q : Int), i64 (nn : Int), nv, .slice a (k0 :: ks).length cp]) (by simp) rfl ?_
      refine h10.rk (b := b3) (t := 50) (fr := (0, 0)) (c := [i64 (kd0 : Int), str t, i64 (q : Int), i64 (nn : Int), nv, .slice a (k0 :: ks).length cp]) (by simp) rfl ?_
      refine h10.bs (fill2 hc0.len rfl) fun b7 w11 h11 => ?_
      refine h11.rk (b := b3) (t := 50) (fr := (0, 0)) (c := [i64 (kd0 : Int), str t, i64 (q : Int), i64 (nn : Int), nv, .slice a (k0 :: ks).length cp]) (by simp) rfl ?_
      refine bdI (cs := [i64 ((8 : Nat) : Int), str [], i64 (q : Int), i64 ((0 : Nat) : Int), .slice none 0 0, .slice (some ⟨b7, 0, none⟩) 2 2]) rfl ?_
      refine st_box (c2 := zN) h11.swap2 rfl rfl rfl fun w20 h20 => ?_
    all_goals
      have h21 := Sat.del (A := [(b6, _), (b7, _)]) h20
      have h22 := Sat.del (A := [(b6, _), (b7, _), (p, _)]) h21
      have h23 : Sat g1 w20 ((p, prs v1 d) :: (b6, box [i64 ((8 : Nat) : Int), str [], i64 (q : Int), i64 ((0 : Nat) : Int), .slice none 0 0, .slice (some ⟨b7, 0, none⟩) 2 2]) :: ([(b7, .cells ((c0 ++ [i64 ((9 : Nat) : Int), str t, i64 (q : Int), i64 ((0 : Nat) : Int), .slice none 0 0, sv]) ++ []).toArray 50)] ++ ((b2, box zN) :: H))) := by
        have := h22.perm (List.perm_middle (l₁ := [(b6, _), (b7, _)]))
        simpa using this
      have hgr0 : Grow 50 6 (.slice (some ⟨b7, 0, none⟩) 2 2) [k0, Node.mk 9 t q 0 [] ks].length ([c0, [i64 ((9 : Nat) : Int), str t, i64 (q : Int), i64 ((0 : Nat) : Int), .slice none 0 0, sv]] : List (List Value)).flatten [(b7, .cells ((c0 ++ [i64 ((9 : Nat) : Int), str t, i64 (q : Int), i64 ((0 : Nat) : Int), .slice none 0 0, sv]) ++ []).toArray 50)] := by
        have e3 : ([c0, [i64 ((9 : Nat) : Int), str t, i64 (q : Int), i64 ((0 : Nat) : Int), .slice none 0 0, sv]] : List (List Value)).flatten = c0 ++ [i64 ((9 : Nat) : Int), str t, i64 (q : Int), i64 ((0 : Nat) : Int), .slice none 0 0, sv] := by simp
        rw [e3]
        exact .some (by simp [hc0.len]) (by simp) (by simp) (by omega)
      refine lp0 (fun m w => ∃ g2 l2 v2 kids kcs kv hp f1, g1.le g2 ∧ TS g2 v2 l2 ∧ WFL l2 ∧ m = l2.length ∧ f1 ≤ f ∧ kids.length + l2.length ≤ 5000 ∧ KR g2 kcs kids ∧ Grow 50 6 kv kids.length kcs.flatten hp ∧
        cascL f1 d q kids l2 ≠ .out ∧ (∀ n l', cascL f1 d q kids l2 = .ok n l' → OkN g R p d H n l') ∧ (∀ q' e, cascL f1 d q kids l2 = .bad q' e → Bad g R p H q' e) ∧
        Sat g2 w ((p, prs v2 d) :: (b6, box [i64 ((8 : Nat) : Int), str [], i64 (q : Int), i64 ((0 : Nat) : Int), .slice none 0 0, kv]) :: (hp ++ ((b2, box zN) :: H)))) rfl l1.length
        ⟨g1, l1, v1, _, _, _, _, f, .refl g1, hT1, hl1, rfl, Nat.le_refl _, by simp; omega, hk2, hgr0, hno, hok, hbad, h23⟩ ?_
      rintro m w21 ⟨g2, l2, v2, kids, kcs2, kv, hp, f1, hg2, hT2, hl2, rfl, hf1, hks2, hkr2, hgr, hno, hok, hbad, h24⟩
      obtain ⟨f2, rfl⟩ : ∃ f2, f1 = f2 + 1 := by
        cases f1 with
        | zero => simp [cascL] at hno
        | succ f2 => exact ⟨f2, rfl⟩
      simp only [cascL] at hno hok hbad
      refine c_kind hl2 hT2 h24 ?_
      simp only [↓E1, ↓E2, ↓E3]
      rw [cnd_dec]
      constructor
      · intro hk
        have hb := kd_of (l := l2) (k := 15) hk
        rw [hb] at hno hok hbad
        simp only [cond_true] at hno hok hbad
        refine c_take hl2 hT2 h24 fun v3 w25 hT3 h25 => ?_
        have h26 := h25.drew
        simp only [↓h26.ld1, ↓E3, Nat.reduceAdd, Nat.reduceLT]
        have hlt3 := tk_lt hb (by decide)
        refine (ih f2 (by omega)).msg hd40 hl2.tk hT3 h26 (andThen_not_out hno) (fun n l3 hr3 => ?_) (fun q' e hq' => ?_)
        · rw [hr3] at hno hok hbad
          simp only [andThen_eq_ok] at hno hok hbad
          intro g3 c v4 w27 hg3 hc hT4 hl4 h27
          have hlt4 := (prog f2).msg hr3
          simp only [↓E3]
          refine h27.rk (b := b6) (t := 50) (fr := (0, 0)) (c := [i64 ((8 : Nat) : Int), str [], i64 (q : Int), i64 ((0 : Nat) : Int), .slice none 0 0, kv]) (by simp) rfl ?_
          refine h27.bs (fill1 (z := zN) hc.len rfl) fun b8 w28 h28 => ?_
          refine h28.rk (b := b6) (t := 50) (fr := (0, 0)) (c := [i64 ((8 : Nat) : Int), str [], i64 (q : Int), i64 ((0 : Nat) : Int), .slice none 0 0, kv]) (by simp) rfl ?_
          have h29 := Sat.pull1 (A := [(p, _), (b6, _)]) h28
          refine Sat.ap1 (m := 1) (c := 1) h29 hgr rfl (by simp [hc.len]) hc.one (by omega) (by omega) fun kv' hp2 w30 hg30 h30 => ?_
          have h31 := Sat.swap2 (Sat.pull (A := hp2) (hp := [(p, _), (b6, _)]) h30)
          refine Sat.st h31 (by rcases hg30.inv with ⟨rfl, _⟩ | ⟨_, _, _, rfl, _⟩ <;> rfl) (by simp) (by rcases hg30.inv with ⟨rfl, _⟩ | ⟨_, _, _, rfl, _⟩ <;> rfl) fun w32 h32 => ?_
          have e : wr [i64 ((8 : Nat) : Int), str [], i64 (q : Int), i64 ((0 : Nat) : Int), .slice none 0 0, kv].toArray 5 kv'.cells.toList = [i64 ((8 : Nat) : Int), str [], i64 (q : Int), i64 ((0 : Nat) : Int), .slice none 0 0, kv'].toArray := by
            rcases hg30.inv with ⟨rfl, _⟩ | ⟨_, _, _, rfl, _⟩ <;> rfl
          rw [e] at h32
          refine ⟨l3.length, by omega, trivial, g3, l3, v4, kids ++ [n], kcs2 ++ [c], kv', hp2, f2, hg2.trans hg3, hT4, hl4, rfl, by omega, ?_, (hkr2.mono hg3).snoc hc, ?_, hno, hok, hbad, h32.swap2⟩
          · simp only [List.length_append, List.length_cons, List.length_nil]; omega
          · simpa using hg30
        · rw [hq'] at hbad
          have hb0 := ((hbad _ _ rfl).mono (hg1.trans hg2))
          intro g3 v3 d3 w27 hg3 h27
          exact hb0 g3 v3 d3 w27 hg3 (Sat.drop1 (A := [(b2, _)]) (Sat.drop1 (A := (b6, _) :: hp) h27))
      · intro hk
        have hb := kd_not (l := l2) (k := 15) hk
        rw [hb] at hok
        simp only [cond_false] at hok
        have h25 := Sat.pull (A := [(p, _), (b6, _)]) h24
        obtain ⟨g3, hg3, h26, hsl⟩ := hgr.freeze h25
        have hkr3 := hkr2.mono hg3
        have hN3 : NodeR g3 [i64 ((8 : Nat) : Int), str [], i64 (q : Int), i64 ((0 : Nat) : Int), .slice none 0 0, kv] (.mk 8 [] q 0 [] kids) := .mk (Sl.nil g3 1) hsl hkr3.1 hkr3.2
        have h27 : Sat g3 w21 ((b6, box [i64 ((8 : Nat) : Int), str [], i64 (q : Int), i64 ((0 : Nat) : Int), .slice none 0 0, kv]) :: (b2, box zN) :: (p, prs v2 d) :: H) := Sat.perm h26 (List.perm_middle (l₁ := [(b6, _), (b2, _)])).symm
        refine ret_box h27 rfl rfl hN3.one fun w28 h28 => ?_
        exact hok _ _ rfl g3 _ v2 w28 (hg1.trans (hg2.trans hg3)) hN3 (hT2.mono hg3) hl2 h28
  · intro k1 hk1
    have hbd : (Nat.beq kd0 7 && b) = false → R (.panicked (stopE (hd l1).pos 20)) w4 := by
      intro h
      have e : (Nat.beq (Node.mk kd0 t q nn ns ks).kind 7 && b) = false := h
      rw [e] at hbad
      simp only [cond_false, syn] at hbad
      exact hbad _ _ rfl g1 v1 d w4 hg1 (Sat.drop1 (A := [(b3, _), (b2, _)]) h4)
    simp only [↓E1, ↓E2, ↓E3, ↓h4.ld1, Nat.reduceAdd, Nat.reduceLT]
    rw [cnd_ndec]
    constructor
    · intro hne
      refine c_bad hl1 hT1 h4 (hbd ?_)
      have : Nat.beq kd0 7 = false := by
        cases hb : Nat.beq kd0 7 with
        | false => rfl
        | true => exact absurd (by have := Nat.eq_of_beq_eq_true hb; omega) hne
      rw [this]; rfl
    · intro he
      have h7 : Nat.beq kd0 7 = true := by
        have : kd0 = 7 := by omega
        rw [this]; rfl
      rw [cnd_eq]
      constructor
      · intro hb
        have hb' : b = false := by simpa using hb
        exact c_bad hl1 hT1 h4 (hbd (by rw [h7, hb']; rfl))
      · intro hb
        have hb' : b = true := by simpa using hb
        exact hk1 _ ⟨by rw [h7, hb']; rfl, h4⟩
end Go.Vx
namespace Go.Vx
open Go Go.Proofs
variable {R : Ending → World → Prop} {g : G} {w : World} {H hp : Hp}

abbrev pbx (p : Nat) : Obj := .cells [ptr p 0].toArray Ty.p_tree_parser
theorem fl_pos (t : Tok) (K : Value → World → Prop) (w : World) : fl false 1 2 (tokV t) K w = K (i64 (t.pos : Int)) w := by rw [fl_eq]; rfl

theorem k_stmt {f : Nat} (ih : ∀ f' ≤ f, AllOK f') : CB F.tree_parser_statement (stmt (f + 1)) := by
  intro p d l v g w H R hd40 hl hT hS hno hok hbad
  simp only [stmt] at hno hok hbad
  apply t_tree_parser_statement
  unfold d_tree_parser_statement
  refine hS.al fun b2 w1 h1 => ?_
  have h1 : Sat g w1 ((p, prs v d) :: (b2, box zN) :: H) := h1.swap2
  simp only [↓E2]
  refine c_kind hl hT h1 ?_
  simp only [↓E1, ↓E2, ↓E3]
  rw [cnd_ndec]
  constructor
  · intro hk
    have hb := kd_not (l := l) (k := 13) hk
    rw [hb] at hno hok hbad
    simp only [cond_false] at hno hok hbad
    refine (ih f (Nat.le_refl _)).expr hd40 hl hT h1 (andThen_not_out hno) (fun n l1 hr => ?_) (fun q e hq => ?_)
    · rw [hr] at hok
      simp only [andThen_eq_ok] at hok
      intro g1 c v1 w2 hg1 hc hT1 hl1 h2
      simp only [↓E3]
      refine st_box h2.swap2 hc.len rfl hc.one fun w3 h3 => ?_
      refine h3.ldn0 (c := c) hc.len.symm ?_
      exact hok _ _ _ rfl g1 c v1 w3 hg1 hc hT1 hl1 h3.tail
    · rw [hq] at hbad
      exact (hbad _ _ rfl).drop
  · intro hk
    have hb := kd_of (l := l) (k := 13) hk
    rw [hb] at hno hok hbad
    simp only [cond_true] at hno hok hbad
    refine c_take hl hT h1 fun v' w2 hT' h2 => ?_
    simp only [↓E3, fl_pos]
    refine bdI (cs := [i64 ((11 : Nat) : Int), str [], i64 ((hd l).pos : Int), i64 ((0 : Nat) : Int), .slice none 0 0, .slice none 0 0]) rfl ?_
    refine h2.al fun b4 w3 h3 => ?_
    refine st_box (c2 := zN) h3 rfl rfl rfl fun w4 h4 => ?_
    refine (ih f (Nat.le_refl _)).expr hd40 hl.tk hT' h4.swap2 (andThen_not_out hno) (fun n l1 hr => ?_) (fun q e hq => ?_)
    · rw [hr] at hok
      simp only [andThen_eq_ok] at hok
      intro g1 c v1 w5 hg1 hc hT1 hl1 h5
      simp only [↓E1, ↓E3, Nat.reduceAdd]
      refine h5.bs (fill1 (z := zN) hc.len rfl) fun b6 w6 h6 => ?_
      obtain ⟨g2, hg2, h7, hsl⟩ := Sat.frz (n := 1) (sz := 6) h6 (by simp [hc.len]) (by omega)
      refine h7.swap2.st rfl (by simp) rfl fun w8 h8 => ?_
      have h8 : Sat g2 w8 ((b4, box [i64 ((11 : Nat) : Int), str [], i64 ((hd l).pos : Int), i64 ((0 : Nat) : Int), .slice none 0 0, .slice (some ⟨b6, 0, none⟩) 1 1]) :: (p, prs v1 d) :: (b2, box zN) :: H) := h8
      have hkr := KR.nil.cons (hc.mono hg2)
      have hN : NodeR g2 [i64 ((11 : Nat) : Int), str [], i64 ((hd l).pos : Int), i64 ((0 : Nat) : Int), .slice none 0 0, .slice (some ⟨b6, 0, none⟩) 1 1] (.mk 11 [] (hd l).pos 0 [] [n]) := .mk (kcs := [c]) (Sl.nil g2 1) (by simpa using hsl) hkr.1 hkr.2
      have h9 := h8.perm (.cons _ (List.Perm.swap _ _ _))
      refine ret_box h9 rfl rfl hN.one fun w10 h10 => ?_
      exact hok _ _ _ rfl g2 _ v1 w10 (hg1.trans hg2) hN (hT1.mono hg2) hl1 h10
    · rw [hq] at hbad
      exact (hbad _ _ rfl).drop.drop

theorem pcells (p : Nat) : (ptr p 0).cells.toList = [ptr p 0] := rfl

theorem k_expr {f : Nat} (ih : ∀ f' ≤ f, AllOK f') : CN F.tree_parser_expression (expr (f + 1)) := by
  intro p d l v g w H R hd40 hl hT hS hno hok hbad
  simp only [expr] at hno hok hbad
  apply t_tree_parser_expression
  unfold d_tree_parser_expression
  rw [pcells]
  refine hS.al fun b1 w1 h1 => h1.al fun b2 w2 h2 => ?_
  have h3 : Sat g w2 ((p, prs v d) :: (b2, box zN) :: (b1, pbx p) :: H) := h2.perm (List.perm_middle (l₁ := [(b2, _), (b1, _)]))
  simp only [↓E2]
  refine jn1 (fun x w => x = .bool (Nat.beq (kd l) 1 && Nat.beq (kd l.tail) 7) ∧ Sat g w ((p, prs v d) :: (b2, box zN) :: (b1, pbx p) :: H)) ?_ ?_
  · rintro x w4 ⟨rfl, h4⟩
    simp only [↓E1, ↓E2, ↓E3, ↓h4.ld2, Nat.reduceAdd, Nat.reduceLT]
    rw [cnd_eq]
    constructor
    · intro hc
      rw [hc] at hno hok hbad
      simp only [cond_true] at hno hok hbad
      refine c_take hl hT h4 fun v' w5 hT' h5 => ?_
      simp only [↓E3]
      refine h5.al fun b3 w6 h6 => ?_
      refine h6.st (c := [i64 0, str [], i64 0]) rfl (by simp) rfl fun w7 h7 => ?_
      have h7 : Sat g w7 ((b3, tbx (hd l)) :: (p, prs v' d) :: (b2, box zN) :: (b1, pbx p) :: H) := h7
      simp only [↓E1, Nat.reduceAdd]
      rw [h7.ld0 1 _ (by simp [tokCells])]
      rw [h7.ld0 2 _ (by simp [tokCells])]
      refine bdI (cs := [i64 ((6 : Nat) : Int), str (hd l).text, i64 ((hd l).pos : Int), i64 ((0 : Nat) : Int), .slice none 0 0, .slice none 0 0]) rfl ?_
      refine h7.al fun b4 w8 h8 => ?_
      refine st_box (c2 := zN) h8 rfl rfl rfl fun w9 h9 => ?_
      have h10 : Sat g w9 ((p, prs v' d) :: (b4, box [i64 ((6 : Nat) : Int), str (hd l).text, i64 ((hd l).pos : Int), i64 ((0 : Nat) : Int), .slice none 0 0, .slice none 0 0]) :: (b3, tbx (hd l)) :: (b2, box zN) :: (b1, pbx p) :: H) :=
        h9.perm (List.perm_middle (l₁ := [(b4, _), (b3, _)]))
      rw [h10.ldH (b := b1) (c := [ptr p 0]) (t := Ty.p_tree_parser) (fr := (0, 0)) (by simp) 0 _ (by simp)]
      have dropB : ∀ {q e : Nat}, Bad g R p H q e → Bad g R p ((b4, box [i64 ((6 : Nat) : Int), str (hd l).text, i64 ((hd l).pos : Int), i64 ((0 : Nat) : Int), .slice none 0 0, .slice none 0 0]) :: (b3, tbx (hd l)) :: (b2, box zN) :: (b1, pbx p) :: H) q e := fun h => h.drop.drop.drop.drop
      simp only [List.getD_cons_zero]
      refine c_within hd40 hl.tk hT' h10 (fun h40 w11 h11 => ?_) (fun h40 v2 w11 hT2 h11 => ?_)
      · have hw : within d (tk l) (fun d l1 => (expr f d l1).andThen fun e l2 => Res.ok (Node.mk 6 (hd l).text (hd l).pos 0 [] [e]) l2) = .bad (hd (tk l)).pos 3 := by unfold within; rw [h40]; rfl
        exact bad_syn (dropB (hbad _ _ hw)) h11
      · have hw : within d (tk l) (fun d l1 => (expr f d l1).andThen fun e l2 => Res.ok (Node.mk 6 (hd l).text (hd l).pos 0 [] [e]) l2) = (expr f (d + 1) (tk (tk l))).andThen fun e l2 => Res.ok (Node.mk 6 (hd l).text (hd l).pos 0 [] [e]) l2 := by unfold within; rw [h40]; rfl
        rw [hw] at hno hok hbad
        have hd39 : d + 1 ≤ 40 := by
          have : d ≠ 40 := fun e => by rw [e] at h40; simp at h40
          omega
        show Tr P F.tree_parser_expression_1 [ptr b1 0, ptr b4 0] w11 _
        apply t_tree_parser_expression_1
        unfold d_tree_parser_expression_1
        rw [h11.ldH (b := b1) (c := [ptr p 0]) (t := Ty.p_tree_parser) (fr := (0, 0)) (by simp) 0 _ (by simp)]
        simp only [↓E2, List.getD_cons_zero]
        refine (ih f (Nat.le_refl _)).expr hd39 hl.tk.tk hT2 h11 (andThen_not_out hno) (fun n l1 hr => ?_) (fun q e hq => ?_)
        · rw [hr] at hok
          simp only [andThen_eq_ok] at hok
          intro g1 c v3 w12 hg1 hc hT3 hl3 h12
          simp only [↓E1, ↓E3]
          refine h12.bs (fill1 (z := zN) hc.len rfl) fun b6 w13 h13 => ?_
          obtain ⟨g2, hg2, h14, hsl⟩ := Sat.frz (n := 1) (sz := 6) h13 (by simp [hc.len]) (by omega)
          refine h14.swap2.st rfl (by simp) rfl fun w15 h15 => ?_
          have h15 : Sat g2 w15 ((b4, box [i64 ((6 : Nat) : Int), str (hd l).text, i64 ((hd l).pos : Int), i64 ((0 : Nat) : Int), .slice none 0 0, .slice (some ⟨b6, 0, none⟩) 1 1]) :: (p, prs v3 (d + 1)) :: (b3, tbx (hd l)) :: (b2, box zN) :: (b1, pbx p) :: H) := h15
          refine ⟨g2, v3, _, h15.swap2, fun w16 h16 => ?_⟩
          try simp only [↓E3]
          have hkr := KR.nil.cons (hc.mono hg2)
          have hN : NodeR g2 [i64 ((6 : Nat) : Int), str (hd l).text, i64 ((hd l).pos : Int), i64 ((0 : Nat) : Int), .slice none 0 0, .slice (some ⟨b6, 0, none⟩) 1 1] (.mk 6 (hd l).text (hd l).pos 0 [] [n]) := .mk (kcs := [c]) (Sl.nil g2 1) (by simpa using hsl) hkr.1 hkr.2
          have h17 := Sat.del (A := [(p, _), (b4, _)]) h16
          have h18 := Sat.del (A := [(p, _), (b4, _), (b2, _)]) h17
          have h19 : Sat g2 w16 ((b4, box [i64 ((6 : Nat) : Int), str (hd l).text, i64 ((hd l).pos : Int), i64 ((0 : Nat) : Int), .slice none 0 0, .slice (some ⟨b6, 0, none⟩) 1 1]) :: (b2, box zN) :: (p, prs v3 d) :: H) :=
            Sat.perm h18 (List.perm_middle (l₁ := [(b4, _), (b2, _)])).symm
          refine ret_box h19 rfl rfl hN.one fun w20 h20 => ?_
          exact hok _ _ rfl g2 _ v3 w20 (hg1.trans hg2) hN (hT3.mono hg2) hl3 h20
        · rw [hq] at hbad
          intro g1 v3 d3 w12 hg1 h12
          exact dropB (hbad _ _ rfl) g1 v3 d3 w12 hg1 h12
    · intro hc
      rw [hc] at hno hok hbad
      simp only [cond_false] at hno hok hbad
      refine (ih f (Nat.le_refl _)).casc hd40 hl hT h4 hno (fun n l1 hr => ?_) (fun q e hq => ((hbad _ _ hq).drop).drop)
      intro g1 c v1 w5 hg1 hc' hT1 hl1 h5
      simp only [↓E3]
      refine st_box h5.swap2 hc'.len rfl hc'.one fun w6 h6 => ?_
      refine h6.ldn0 (c := c) hc'.len.symm ?_
      exact hok _ _ hr g1 c v1 w6 hg1 hc' hT1 hl1 (Sat.drop1 (A := [(b1, _)]) h6.tail)
  · intro k1 hk1
    simp only [↓E1, ↓E2, ↓E3, ↓h3.ld2, Nat.reduceAdd, Nat.reduceLT]
    refine c_kind hl hT h3 ?_
    simp only [↓E1, ↓E2, ↓E3]
    rw [cnd_dec]
    constructor
    · intro hk
      have hb := kd_of (l := l) (k := 1) hk
      have h0 : Nat.beq (kd l) 0 = false := by have := Nat.eq_of_beq_eq_true hb; rw [this]; rfl
      have hlt := (hl.tail h0).hd.1
      simp only [↓h3.ld2, ↓h3.ld0, ↓E1, ↓E3, Nat.reduceAdd, Nat.reduceLT]
      refine TS.at hT (j := 1) h3 (t := hd l.tail) (by rw [← hlt]; simp) fun b o c0 _ _ => ?_
      simp only [↓E1, Nat.add_zero]
      rw [h3.ldI c0]
      simp only [↓E1]
      refine hk1 _ _ ⟨?_, h3⟩
      rw [hb, Bool.true_and]
      congr 1
      rw [Bool.eq_iff_iff]
      simp only [decide_eq_true_eq]
      constructor
      · intro h; exact kd_of (l := l.tail) (k := 7) h
      · intro h; have := Nat.eq_of_beq_eq_true h; unfold kd at this; omega
    · intro hk
      have hb := kd_not (l := l) (k := 1) hk
      exact hk1 _ _ ⟨by rw [hb]; rfl, h3⟩
end Go.Vx
namespace Go.Vx
open Go Go.Proofs
variable {R : Ending → World → Prop} {g : G} {w : World} {H hp T : Hp}

/-- The last element of a slice that grows is written. -/
theorem Grow.last {e : TypeId} {v : Value} {n : Nat} {cs z : List Value} (hg : Grow e 6 v (n + 1) (cs ++ z) hp) (hz : z.length = 6) (hcs : cs.length = n * 6) :
    ∃ b cp ex, v = .slice (Option.some ⟨b, 0, none⟩) (n + 1) cp ∧ hp = [(b, .cells (cs ++ z ++ ex).toArray e)] ∧
      (∀ (c : List Value) (g : G) (w : World) (T : Hp) (K : World → Prop), c.length = 6 → allOne c = true → Sat g w ((b, .cells (cs ++ z ++ ex).toArray e) :: T) →
        (∀ w', Sat g w' ((b, .cells (cs ++ c ++ ex).toArray e) :: T) → K w') → st 6 (ptr b (0 + ((n : Nat) : Int).toNat * 6)) (.agg c.toArray) K w) ∧
      ∀ c : List Value, c.length = 6 → Grow e 6 v (n + 1) (cs ++ c) [(b, .cells (cs ++ c ++ ex).toArray e)] := by
  rcases hg.inv with ⟨_, h, _⟩ | ⟨b, cp, ex, rfl, h1, h2, h3, h4, rfl⟩
  · omega
  · refine ⟨b, cp, ex, rfl, rfl, ?_, fun c hc => .some (by simp [hcs, hc]; omega) h2 h3 h4⟩
    intro c g w T K hc hone hS hk
    refine hS.st (v := .agg c.toArray) (by simp [Value.cells, hc]) (by simp [hcs, hz]) (by simpa [Value.cells] using hone) fun w' hw => hk w' ?_
    have e1 : wr (cs ++ z ++ ex).toArray (0 + ((n : Nat) : Int).toNat * 6) (Value.agg c.toArray).cells.toList = (cs ++ c ++ ex).toArray := by
      have := wr_app c cs (z ++ ex) (by simp [hz, hc])
      have e2 : 0 + ((n : Nat) : Int).toNat * 6 = cs.length := by rw [hcs]; simp
      rw [e2]
      have e3 : (z ++ ex).drop c.length = ex := by rw [hc, List.drop_append_of_le_length (by omega), List.drop_eq_nil_of_le (by omega)]; rfl
      rw [e3] at this
      rw [List.append_assoc cs z ex]
      exact this
    rw [e1] at hw
    exact hw

theorem app_A {v' kv x0 x1 x2 x3 x4 : Value} {n b3 : Nat} {cs z c : List Value} {K : World → Prop} (hg : Grow 50 6 v' (n + 1) (cs ++ z) hp) (hz : z.length = 6) (hcs : cs.length = n * 6) (hc : c.length = 6) (hone : allOne c = true)
    (h : Sat g w (hp ++ ((b3, box [x0, x1, x2, x3, x4, kv]) :: T))) (hk : ∀ hp3 w', Grow 50 6 v' (n + 1) (cs ++ c) hp3 → Sat g w' ((b3, box [x0, x1, x2, x3, x4, v']) :: (hp3 ++ T)) → K w') :
    ia 6 v' (i64 (n : Int)) (fun t w => st 6 t (.agg c.toArray) (fun w => st 1 (ptr b3 5) v' K w) w) w := by
  obtain ⟨b, cp, ex, rfl, rfl, hst, hgr⟩ := hg.last hz hcs
  rw [ia_eq]
  refine ⟨by omega, by omega, ?_⟩
  refine hst c g w _ _ hc hone h fun w1 h1 => ?_
  refine h1.swap2.st rfl (by simp) rfl fun w2 h2 => ?_
  exact hk _ _ (hgr c hc) h2

theorem app_B {v' kv x0 x1 x2 x3 x4 : Value} {n b3 : Nat} {cs z c : List Value} {K : World → Prop} (hg : Grow 50 6 v' (n + 1) (cs ++ z) hp) (hz : z.length = 6) (hcs : cs.length = n * 6) (hc : c.length = 6) (hone : allOne c = true)
    (h : Sat g w (hp ++ ((b3, box [x0, x1, x2, x3, x4, kv]) :: T))) (hk : ∀ hp3 w', Grow 50 6 v' (n + 1) (cs ++ c) hp3 → Sat g w' ((b3, box [x0, x1, x2, x3, x4, v']) :: (hp3 ++ T)) → K w') :
    ia 6 v' (i64 (n : Int)) (fun t w => st 1 (ptr b3 5) v' (fun w => st 6 t (.agg c.toArray) K w) w) w := by
  obtain ⟨b, cp, ex, rfl, rfl, hst, hgr⟩ := hg.last hz hcs
  rw [ia_eq]
  refine ⟨by omega, by omega, ?_⟩
  have h := Sat.swap2 h
  refine h.st rfl (by simp) rfl fun w1 h1 => ?_
  refine hst c g w1 _ _ hc hone h1.swap2 fun w2 h2 => ?_
  exact hk _ _ (hgr c hc) h2.swap2

theorem zN_len : zN.length = 6 := rfl
theorem fillZ : fillV ((List.range (1 * zN.length)).map (fun i => zN.getD (i % zN.length) undef)) [(0, 6, .agg zN.toArray)] = some zN := fill1 (z := zN) rfl rfl

theorem k_lst {f : Nat} (ih : ∀ f' ≤ f, AllOK f') : CN F.tree_parser_list (lst (f + 1)) := by
  intro p d l v g w H R hd40 hl hT hS hno hok hbad
  simp only [lst] at hno hok hbad
  apply t_tree_parser_list
  unfold d_tree_parser_list
  rw [pcells]
  refine hS.al fun b1 w1 h1 => h1.al fun b2 w2 h2 => ?_
  have h3 : Sat g w2 ((p, prs v d) :: (b2, box zN) :: (b1, pbx p) :: H) := h2.perm (List.perm_middle (l₁ := [(b2, _), (b1, _)]))
  simp only [↓E1, ↓E2, ↓E3, ↓h3.ld2, ↓h3.ld0, Nat.reduceAdd, Nat.reduceLT]
  refine TS.at hT (j := 0) h3 hl.hd.1 fun b o _ _ c2 => ?_
  simp only [↓E1]
  rw [h3.ldI c2]
  refine bdI (cs := [i64 ((4 : Nat) : Int), str [], i64 ((hd l).pos : Int), i64 ((0 : Nat) : Int), .slice none 0 0, .slice none 0 0]) rfl ?_
  refine h3.al fun b3 w4 h4 => ?_
  refine st_box (c2 := zN) h4 rfl rfl rfl fun w5 h5 => ?_
  have h6 := h5.swap2
  rw [h6.ld3 0 _ (by simp)]
  simp only [List.getD_cons_zero]
  refine c_within hd40 hl hT h6 (fun h40 w7 h7 => ?_) (fun h40 v2 w7 hT2 h7 => ?_)
  · have hw : within d l (fun d l1 => lstL f d (hd l).pos [] l1) = .bad (hd l).pos 3 := by unfold within; rw [h40]; rfl
    exact bad_syn ((hbad _ _ hw).drop.drop.drop) h7
  have hw : within d l (fun d l1 => lstL f d (hd l).pos [] l1) = lstL f (d + 1) (hd l).pos [] (tk l) := by unfold within; rw [h40]; rfl
  rw [hw] at hno hok hbad
  have hd39 : d + 1 ≤ 40 := by
    have : d ≠ 40 := fun e => by rw [e] at h40; simp at h40
    omega
  have hl97 := hl.len
  have htl := tk_le l
  show Tr P F.tree_parser_list_1 [ptr b1 0, ptr b3 0] w7 _
  apply t_tree_parser_list_1
  unfold d_tree_parser_list_1
  have h7 : Sat g w7 ((p, prs v2 (d + 1)) :: (b3, box [i64 ((4 : Nat) : Int), str [], i64 ((hd l).pos : Int), i64 ((0 : Nat) : Int), .slice none 0 0, .slice none 0 0]) :: ([] ++ ((b2, box zN) :: (b1, pbx p) :: H))) := h7
  refine lp0 (fun m w => ∃ g2 l2 v2 kids kcs kv hp f1, g.le g2 ∧ TS g2 v2 l2 ∧ WFL l2 ∧ m = l2.length ∧ f1 ≤ f ∧ kids.length + l2.length ≤ 5000 ∧ KR g2 kcs kids ∧ Grow 50 6 kv kids.length kcs.flatten hp ∧
    lstL f1 (d + 1) (hd l).pos kids l2 ≠ .out ∧ (∀ n l', lstL f1 (d + 1) (hd l).pos kids l2 = .ok n l' → OkN g R p d H n l') ∧ (∀ q' e, lstL f1 (d + 1) (hd l).pos kids l2 = .bad q' e → Bad g R p H q' e) ∧
    Sat g2 w ((p, prs v2 (d + 1)) :: (b3, box [i64 ((4 : Nat) : Int), str [], i64 ((hd l).pos : Int), i64 ((0 : Nat) : Int), .slice none 0 0, kv]) :: (hp ++ ((b2, box zN) :: (b1, pbx p) :: H)))) rfl (tk l).length
    ⟨g, tk l, v2, [], [], _, [], f, .refl g, hT2, hl.tk, rfl, Nat.le_refl _, by simp; omega, .nil, .nil, hno, hok, hbad, h7⟩ ?_
  clear h7 h6 h5 h4 h3 h2 h1 hno hok hbad hw
  rintro m w8 ⟨g2, l2, v3, kids, kcs, kv, hp, f1, hg2, hT3, hl2, rfl, hf1, hks, hkr, hgr, hno, hok, hbad, h8⟩
  obtain ⟨f2, rfl⟩ : ∃ f2, f1 = f2 + 1 := by
    cases f1 with
    | zero => simp [lstL] at hno
    | succ f2 => exact ⟨f2, rfl⟩
  simp only [lstL] at hno hok hbad
  have ldp : ∀ {g : G} {w : World} {d : Nat} {v kv : Value} {hp : Hp} (h : Sat g w ((p, prs v d) :: (b3, box [i64 ((4 : Nat) : Int), str [], i64 ((hd l).pos : Int), i64 ((0 : Nat) : Int), .slice none 0 0, kv]) :: (hp ++ ((b2, box zN) :: (b1, pbx p) :: H)))) (K : Value → World → Prop), ld (ptr b1 0) K w = K (ptr p 0) w :=
    fun h K => h.ldH (b := b1) (c := [ptr p 0]) (t := Ty.p_tree_parser) (fr := (0, 0)) (by simp) 0 K (by simp)
  rw [ldp h8]
  simp only [↓E2]
  refine c_kind hl2 hT3 h8 ?_
  simp only [↓E1, ↓E2, ↓E3]
  rw [cnd_ndec]
  constructor
  · intro hk
    have hb := kd_not (l := l2) (k := 9) hk
    rw [hb] at hno hok hbad
    simp only [cond_false] at hno hok hbad
    have h9 := h8.drew
    obtain ⟨a, cp, rfl⟩ := hgr.slice
    simp only [↓h9.ld1, ldp h9, ↓E1, ↓E2, ↓E3, Nat.reduceAdd, Nat.reduceLT]
    have helem : ∀ {w : World} {H' : Hp} {R' : Ending → World → Prop}, Sat g2 w ((p, prs v3 (d + 1)) :: H') → (∀ n l', elem f2 (d + 1) l2 = .ok n l' → OkN g2 R' p (d + 1) H' n l') → (∀ q e, elem f2 (d + 1) l2 = .bad q e → Bad g2 R' p H' q e) → Tr P F.tree_parser_element [ptr p 0] w R' :=
      fun h h1 h2 => (ih f2 (by omega)).elem hd39 hl2 hT3 h (andThen_not_out hno) h1 h2
    have next : ∀ {n : Node} {l3 : List Tok} {g3 : G} {c : List Value} {v4 v' : Value} {hp3 : Hp} {w' : World}, elem f2 (d + 1) l2 = .ok n l3 → g2.le g3 → NodeR g3 c n → TS g3 v4 l3 → WFL l3 → Grow 50 6 v' (kids.length + 1) (kcs.flatten ++ c) hp3 →
        Sat g3 w' ((b3, box [i64 ((4 : Nat) : Int), str [], i64 ((hd l).pos : Int), i64 ((0 : Nat) : Int), .slice none 0 0, v']) :: (hp3 ++ ((p, prs v4 (d + 1)) :: (b2, box zN) :: (b1, pbx p) :: H))) →
        ∃ m', m' < l2.length ∧ True ∧ ∃ g2 l2 v2 kids kcs kv hp f1, g.le g2 ∧ TS g2 v2 l2 ∧ WFL l2 ∧ m' = l2.length ∧ f1 ≤ f ∧ kids.length + l2.length ≤ 5000 ∧ KR g2 kcs kids ∧ Grow 50 6 kv kids.length kcs.flatten hp ∧
          lstL f1 (d + 1) (hd l).pos kids l2 ≠ .out ∧ (∀ n l', lstL f1 (d + 1) (hd l).pos kids l2 = .ok n l' → OkN g R p d H n l') ∧ (∀ q' e, lstL f1 (d + 1) (hd l).pos kids l2 = .bad q' e → Bad g R p H q' e) ∧
          Sat g2 w' ((p, prs v2 (d + 1)) :: (b3, box [i64 ((4 : Nat) : Int), str [], i64 ((hd l).pos : Int), i64 ((0 : Nat) : Int), .slice none 0 0, kv]) :: (hp ++ ((b2, box zN) :: (b1, pbx p) :: H))) := by
      intro n l3 g3 c v4 v' hp3 w' hr hg3 hc hT4 hl3 hg4 h10
      rw [hr] at hno hok hbad
      simp only [andThen_eq_ok] at hno hok hbad
      have hlt := ((prog f2).elem hr).1
      have h11 := Sat.swap2 (Sat.pull1 (A := hp3) (hp := [(p, _)]) h10)
      refine ⟨l3.length, hlt, trivial, g3, l3, v4, kids ++ [n], kcs ++ [c], v', hp3, f2, hg2.trans hg3, hT4, hl3, rfl, by omega, ?_, (hkr.mono hg3).snoc hc, ?_, hno, hok, hbad, h11⟩
      · simp only [List.length_append, List.length_cons, List.length_nil]; omega
      · simpa using hg4
    have badE : ∀ {H' : Hp} {q e : Nat}, elem f2 (d + 1) l2 = .bad q e → (∀ {g' : G} {v' : Value} {d' : Nat} {w' : World}, Sat g' w' ((p, prs v' d') :: H') → Sat g' w' ((p, prs v' d') :: H)) → ∀ (g' : G) (v' : Value) (d' : Nat) (w' : World), g2.le g' → Sat g' w' ((p, prs v' d') :: H') → R (.panicked (stopE q e)) w' := by
      intro H' q e hq hsub g' v' d' w' hg' h'
      rw [hq] at hbad
      exact hbad _ _ rfl g' v' d' w' (hg2.trans hg') (hsub h')
    constructor
    · constructor
      · refine helem h9 (fun n l3 hr => ?_) (fun q e hq => badE hq (fun h => Sat.drop1 (A := [(b2, _), (b1, _)]) (Sat.drop1 (A := (b3, _) :: hp) h)))
        intro g3 c v4 w10 hg3 hc hT4 hl4 h10
        simp only [↓E3]
        refine h10.rk (b := b3) (t := 50) (fr := (0, 0)) (c := [i64 ((4 : Nat) : Int), str [], i64 ((hd l).pos : Int), i64 ((0 : Nat) : Int), .slice none 0 0, .slice a kids.length cp]) (by simp) rfl ?_
        refine h10.bs fillZ fun b8 w11 h11 => ?_
        refine h11.rk (b := b3) (t := 50) (fr := (0, 0)) (c := [i64 ((4 : Nat) : Int), str [], i64 ((hd l).pos : Int), i64 ((0 : Nat) : Int), .slice none 0 0, .slice a kids.length cp]) (by simp) rfl ?_
        have h12 := Sat.pull1 (A := [(p, _), (b3, _)]) h11
        refine Sat.ap1 (m := 1) (c := 1) h12 hgr rfl rfl rfl (by omega) (by omega) fun v' hp2 w13 hg13 h13 => ?_
        have h14 := Sat.perm h13 (List.Perm.append_left hp2 (List.Perm.swap (b3, _) (p, _) _))
        exact app_A hg13 zN_len hgr.len hc.len hc.one h14 fun hp3 w15 hg15 h15 => next hr hg3 hc hT4 hl4 hg15 h15
      · refine helem h9 (fun n l3 hr => ?_) (fun q e hq => badE hq (fun h => Sat.drop1 (A := [(b2, _), (b1, _)]) (Sat.drop1 (A := (b3, _) :: hp) h)))
        intro g3 c v4 w10 hg3 hc hT4 hl4 h10
        simp only [↓E3]
        refine h10.rk (b := b3) (t := 50) (fr := (0, 0)) (c := [i64 ((4 : Nat) : Int), str [], i64 ((hd l).pos : Int), i64 ((0 : Nat) : Int), .slice none 0 0, .slice a kids.length cp]) (by simp) rfl ?_
        refine h10.bs fillZ fun b8 w11 h11 => ?_
        refine h11.rk (b := b3) (t := 50) (fr := (0, 0)) (c := [i64 ((4 : Nat) : Int), str [], i64 ((hd l).pos : Int), i64 ((0 : Nat) : Int), .slice none 0 0, .slice a kids.length cp]) (by simp) rfl ?_
        have h12 := Sat.pull1 (A := [(p, _), (b3, _)]) h11
        refine Sat.ap1 (m := 1) (c := 1) h12 hgr rfl rfl rfl (by omega) (by omega) fun v' hp2 w13 hg13 h13 => ?_
        have h14 := Sat.perm h13 (List.Perm.append_left hp2 (List.Perm.swap (b3, _) (p, _) _))
        exact app_B hg13 zN_len hgr.len hc.len hc.one h14 fun hp3 w15 hg15 h15 => next hr hg3 hc hT4 hl4 hg15 h15
    · constructor
      · refine h9.bs fillZ fun b8 w10 h10 => ?_
        refine h10.rk (b := b1) (t := Ty.p_tree_parser) (fr := (0, 0)) (c := [ptr p 0]) (by simp) rfl ?_
        refine h10.rk (b := b3) (t := 50) (fr := (0, 0)) (c := [i64 ((4 : Nat) : Int), str [], i64 ((hd l).pos : Int), i64 ((0 : Nat) : Int), .slice none 0 0, .slice a kids.length cp]) (by simp) rfl ?_
        refine helem h10.swap2 (fun n l3 hr => ?_) (fun q e hq => badE hq (fun h => Sat.drop1 (A := [(b2, _), (b1, _)]) (Sat.drop1 (A := (b8, _) :: (b3, _) :: hp) h)))
        intro g3 c v4 w11 hg3 hc hT4 hl4 h11
        simp only [↓E3]
        refine h11.rk (b := b3) (t := 50) (fr := (0, 0)) (c := [i64 ((4 : Nat) : Int), str [], i64 ((hd l).pos : Int), i64 ((0 : Nat) : Int), .slice none 0 0, .slice a kids.length cp]) (by simp) rfl ?_
        have h12 := Sat.pull1 (A := [(p, _), (b3, _)]) h11.swap2
        refine Sat.ap1 (m := 1) (c := 1) h12 hgr rfl rfl rfl (by omega) (by omega) fun v' hp2 w13 hg13 h13 => ?_
        have h14 := Sat.perm h13 (List.Perm.append_left hp2 (List.Perm.swap (b3, _) (p, _) _))
        exact app_A hg13 zN_len hgr.len hc.len hc.one h14 fun hp3 w15 hg15 h15 => next hr hg3 hc hT4 hl4 hg15 h15
      · refine h9.bs fillZ fun b8 w10 h10 => ?_
        refine h10.rk (b := b1) (t := Ty.p_tree_parser) (fr := (0, 0)) (c := [ptr p 0]) (by simp) rfl ?_
        refine h10.rk (b := b3) (t := 50) (fr := (0, 0)) (c := [i64 ((4 : Nat) : Int), str [], i64 ((hd l).pos : Int), i64 ((0 : Nat) : Int), .slice none 0 0, .slice a kids.length cp]) (by simp) rfl ?_
        refine helem h10.swap2 (fun n l3 hr => ?_) (fun q e hq => badE hq (fun h => Sat.drop1 (A := [(b2, _), (b1, _)]) (Sat.drop1 (A := (b8, _) :: (b3, _) :: hp) h)))
        intro g3 c v4 w11 hg3 hc hT4 hl4 h11
        simp only [↓E3]
        refine h11.rk (b := b3) (t := 50) (fr := (0, 0)) (c := [i64 ((4 : Nat) : Int), str [], i64 ((hd l).pos : Int), i64 ((0 : Nat) : Int), .slice none 0 0, .slice a kids.length cp]) (by simp) rfl ?_
        have h12 := Sat.pull1 (A := [(p, _), (b3, _)]) h11.swap2
        refine Sat.ap1 (m := 1) (c := 1) h12 hgr rfl rfl rfl (by omega) (by omega) fun v' hp2 w13 hg13 h13 => ?_
        have h14 := Sat.perm h13 (List.Perm.append_left hp2 (List.Perm.swap (b3, _) (p, _) _))
        exact app_B hg13 zN_len hgr.len hc.len hc.one h14 fun hp3 w15 hg15 h15 => next hr hg3 hc hT4 hl4 hg15 h15
  · intro hk
    have hb := kd_of (l := l2) (k := 9) hk
    rw [hb] at hok
    simp only [cond_true] at hok
    rw [ldp h8]
    refine c_take hl2 hT3 h8 fun v4 w9 hT4 h9 => ?_
    simp only [↓E3]
    have h10 := Sat.pull (A := [(p, _), (b3, _)]) h9
    obtain ⟨g3, hg3, h11, hsl⟩ := hgr.freeze h10
    have hkr3 := hkr.mono hg3
    have hN3 : NodeR g3 [i64 ((4 : Nat) : Int), str [], i64 ((hd l).pos : Int), i64 ((0 : Nat) : Int), .slice none 0 0, kv] (.mk 4 [] (hd l).pos 0 [] kids) := .mk (Sl.nil g3 1) hsl hkr3.1 hkr3.2
    refine ⟨g3, v4, _, h11, fun w12 h12 => ?_⟩
    have h13 : Sat g3 w12 ((b3, box [i64 ((4 : Nat) : Int), str [], i64 ((hd l).pos : Int), i64 ((0 : Nat) : Int), .slice none 0 0, kv]) :: (b2, box zN) :: (p, prs v4 d) :: H) :=
      Sat.perm (Sat.del (A := [(p, _), (b3, _), (b2, _)]) h12) (List.perm_middle (l₁ := [(b3, _), (b2, _)])).symm
    refine ret_box h13 rfl rfl hN3.one fun w14 h14 => ?_
    exact hok _ _ rfl g3 _ v4 w14 (hg2.trans hg3) hN3 (hT4.mono hg3) hl2.tk h14
end Go.Vx
namespace Go.Vx
open Go Go.Proofs
variable {R : Ending → World → Prop} {g : G} {w : World} {H hp T : Hp}

theorem k_elem {f : Nat} (ih : ∀ f' ≤ f, AllOK f') : CN F.tree_parser_element (elem (f + 1)) := by
  intro p d l v g w H R hd40 hl hT hS hno hok hbad
  simp only [elem] at hno hok hbad
  apply t_tree_parser_element
  unfold d_tree_parser_element
  refine hS.al fun b2 w1 h1 => ?_
  have h1 : Sat g w1 ((p, prs v d) :: (b2, box zN) :: H) := h1.swap2
  simp only [↓E1, ↓E2, ↓E3, ↓h1.ld0, Nat.reduceAdd, Nat.reduceLT]
  refine hT.ldHd hl h1 ?_
  refine h1.al fun b3 w2 h2 => ?_
  refine h2.st (c := [i64 0, str [], i64 0]) rfl (by simp) rfl fun w3 h3 => ?_
  have h3 : Sat g w3 ((b3, tbx (hd l)) :: (p, prs v d) :: (b2, box zN) :: H) := h3
  simp only [↓E1, Nat.reduceAdd]
  rw [h3.ld0 1 _ (by simp [tokCells])]
  rw [h3.ld0 2 _ (by simp [tokCells])]
  refine bdI (cs := [i64 ((3 : Nat) : Int), str (hd l).text, i64 ((hd l).pos : Int), i64 ((0 : Nat) : Int), .slice none 0 0, .slice none 0 0]) rfl ?_
  refine h3.al fun b4 w4 h4 => ?_
  refine st_box (c2 := zN) h4 rfl rfl rfl fun w5 h5 => ?_
  rw [h5.ld1 0 _ (by simp [tokCells])]
  have h6 : Sat g w5 ((p, prs v d) :: (b4, box [i64 ((3 : Nat) : Int), str (hd l).text, i64 ((hd l).pos : Int), i64 ((0 : Nat) : Int), .slice none 0 0, .slice none 0 0]) :: (b3, tbx (hd l)) :: (b2, box zN) :: H) :=
    h5.perm (List.perm_middle (l₁ := [(b4, _), (b3, _)]))
  clear h1 h2 h3 h4 h5
  -- at the end
  have fin : ∀ (kk : Nat) (w6 : World), OkN g R p d H (.mk kk (hd l).text (hd l).pos 0 [] []) (tk l) → Sat g w6 ((p, prs v d) :: (b4, box [i64 (kk : Int), str (hd l).text, i64 ((hd l).pos : Int), i64 ((0 : Nat) : Int), .slice none 0 0, .slice none 0 0]) :: (b3, tbx (hd l)) :: (b2, box zN) :: H) →
      Tr P F.tree_parser_take [ptr p 0] w6 (Vx.back (fun _ w => ldn 6 (ptr b4 0) (fun t w => st 6 (ptr b2 0) t (fun w => ldn 6 (ptr b2 0) (fun r0 w => R (.returned r0) w) w) w) w) (fun ch w => R (.panicked ch) w)) := by
    intro kk w6 hk h
    refine c_take hl hT h fun v1 w7 hT1 h7 => ?_
    have h8 := Sat.perm (Sat.del (A := [(p, _), (b4, _)]) h7) (List.perm_middle (l₁ := [(b4, _), (b2, _)])).symm
    refine ret_box h8 rfl rfl rfl fun w9 h9 => ?_
    exact hk g _ v1 w9 (.refl g) (nodeR_leaf g kk _ _) hT1 hl.tk h9
  have setk : ∀ (kk : Nat), OkN g R p d H (.mk kk (hd l).text (hd l).pos 0 [] []) (tk l) →
      st 1 (ptr b4 0) (i64 (kk : Int)) (fun w => Tr P F.tree_parser_take [ptr p 0] w (Vx.back (fun _ w => ldn 6 (ptr b4 0) (fun t w => st 6 (ptr b2 0) t (fun w => ldn 6 (ptr b2 0) (fun r0 w => R (.returned r0) w) w) w) w) (fun ch w => R (.panicked ch) w))) w5 := by
    intro kk hk
    refine h6.swap2.st rfl (by simp) rfl fun w7 h7 => ?_
    exact fin kk w7 hk (Sat.swap2 h7)
  simp only [tokCells, ↓E1, ↓E2, ↓E3, Nat.reduceAdd]
  refine jn1 (fun x w => x = .bool (Nat.beq (kd l) 17 || Nat.beq (kd l) 8) ∧ w = w5) ?_ ?_
  · rintro x w6 ⟨rfl, rfl⟩
    rw [cnd_eq]
    constructor
    · intro hb
      rw [hb] at hno hok hbad
      simp only [cond_true] at hno hok hbad
      refine (ih f (Nat.le_refl _)).lst hd40 hl hT h6 hno (fun n l1 hr => ?_) (fun q e hq => (hbad _ _ hq).drop.drop.drop)
      intro g1 c v1 w7 hg1 hc hT1 hl1 h7
      simp only [↓E3]
      have h8 := Sat.del (A := [(p, _)]) (Sat.del (A := [(p, _), (b4, _)]) h7)
      refine st_box (Sat.swap2 h8) hc.len rfl hc.one fun w9 h9 => ?_
      refine h9.ldn0 (c := c) hc.len.symm ?_
      exact hok _ _ hr g1 c v1 w9 hg1 hc hT1 hl1 h9.tail
    intro hb
    rw [hb] at hno hok hbad
    simp only [cond_false] at hno hok hbad
    clear hb
    rw [cnd_dec]
    constructor
    · intro hk
      have hb := kd_of (l := l) (k := 4) hk
      rw [hb] at hok
      exact setk 1 (hok _ _ rfl)
    intro hk
    have hb := kd_not (l := l) (k := 4) hk
    rw [hb] at hno hok hbad
    simp only [cond_false] at hno hok hbad
    clear hb
    rw [cnd_dec]
    constructor
    · intro hk
      have hb := kd_of (l := l) (k := 5) hk
      rw [hb] at hok
      exact setk 2 (hok _ _ rfl)
    intro hk
    have hb := kd_not (l := l) (k := 5) hk
    rw [hb] at hno hok hbad
    simp only [cond_false] at hno hok hbad
    clear hb
    rw [cnd_dec]
    constructor
    · intro hk
      have hb := kd_of (l := l) (k := 1) hk
      rw [hb] at hok
      simp only [cond_true] at hok
      rw [h6.ld2 1 _ (by simp [tokCells])]
      simp only [tokCells, ↓E3, bS_eql]
      rw [cnd_dec]
      constructor
      · intro h
        have : ((hd l).text == trueT) = true := beq_iff_eq.2 h
        rw [this, Bool.true_or] at hok
        exact setk 13 (hok _ _ rfl)
      intro h
      have ht : ((hd l).text == trueT) = false := beq_eq_false_iff_ne.2 h
      rw [ht, Bool.false_or] at hok
      rw [h6.ld2 1 _ (by simp [tokCells])]
      simp only [tokCells, ↓E3, bS_eql]
      rw [cnd_dec]
      constructor
      · intro h
        have : ((hd l).text == falseT) = true := beq_iff_eq.2 h
        rw [this, Bool.true_or] at hok
        exact setk 13 (hok _ _ rfl)
      intro h
      have ht : ((hd l).text == falseT) = false := beq_eq_false_iff_ne.2 h
      rw [ht, Bool.false_or] at hok
      rw [h6.ld2 1 _ (by simp [tokCells])]
      simp only [tokCells, ↓E3, bS_eql]
      rw [cnd_dec]
      constructor
      · intro h
        have : ((hd l).text == nilT) = true := beq_iff_eq.2 h
        rw [this] at hok
        exact setk 13 (hok _ _ rfl)
      intro h
      have ht : ((hd l).text == nilT) = false := beq_eq_false_iff_ne.2 h
      rw [ht] at hok
      exact fin 3 w6 (hok _ _ rfl) h6
    intro hk
    have hb := kd_not (l := l) (k := 1) hk
    rw [hb] at hno hok hbad
    simp only [cond_false] at hno hok hbad
    clear hb
    rw [cnd_dec]
    constructor
    · intro hk
      have hb := kd_of (l := l) (k := 6) hk
      rw [hb, Bool.true_or] at hok
      have e : decide (((hd l).kind : Int) = 6) = true := by simpa using hk
      rw [e]
      simp only [↓E3]
      exact fin 3 w6 (hok _ _ rfl) h6
    intro hk
    have hb := kd_not (l := l) (k := 6) hk
    rw [hb, Bool.false_or] at hok hbad
    clear hb
    rw [cnd_dec]
    constructor
    · intro hk
      have hb := kd_of (l := l) (k := 2) hk
      rw [hb, Bool.true_or] at hok
      have e : decide (((hd l).kind : Int) = 2) = true := by simpa using hk
      rw [e]
      simp only [↓E3]
      exact fin 3 w6 (hok _ _ rfl) h6
    intro hk
    have hb := kd_not (l := l) (k := 2) hk
    rw [hb, Bool.false_or] at hok hbad
    clear hb
    rw [cnd_dec]
    constructor
    · intro hk
      have hb := kd_of (l := l) (k := 3) hk
      rw [hb] at hok
      exact fin 3 w6 (hok _ _ rfl) h6
    · intro hk
      have hb := kd_not (l := l) (k := 3) hk
      rw [hb] at hbad
      simp only [cond_false, syn] at hbad
      refine c_bad hl hT h6 ?_
      exact bad_syn ((hbad _ _ rfl).drop.drop.drop) h6
  · intro k1 hk1
    rw [cnd_dec]
    constructor
    · intro hk
      have hb := kd_of (l := l) (k := 17) hk
      have e : decide (((hd l).kind : Int) = 17) = true := by simpa using hk
      exact hk1 _ _ ⟨by rw [e, hb, Bool.true_or], rfl⟩
    · intro hk
      have hb := kd_not (l := l) (k := 17) hk
      refine hk1 _ _ ⟨?_, rfl⟩
      rw [hb, Bool.false_or]
      congr 1
      rw [Bool.eq_iff_iff]
      simp only [decide_eq_true_eq]
      constructor
      · intro h; exact kd_of (l := l) (k := 8) h
      · intro h; have := Nat.eq_of_beq_eq_true h; unfold kd at this; omega
end Go.Vx
namespace Go.Vx
open Go Go.Proofs
variable {R : Ending → World → Prop} {g : G} {w : World} {H hp T : Hp}

/-- What follows when temps and statements have been read into a box. -/
def OkD (g : G) (R : Ending → World → Prop) (p nb d : Nat) (H : Hp) (n : Node) (l' : List Tok) : Prop :=
  ∀ g' c v' w', g.le g' → NodeR g' c n → TS g' v' l' → WFL l' → Sat g' w' ((p, prs v' d) :: (nb, box c) :: H) → R (.returned (.tuple #[])) w'
/-- When somebody gives up: the box is there still. -/
def BadD (g : G) (R : Ending → World → Prop) (p nb : Nat) (H : Hp) (q e : Nat) : Prop :=
  ∀ g' v' d' (x : List Value) w', g.le g' → x.length = 6 → Sat g' w' ((p, prs v' d') :: (nb, box x) :: H) → R (.panicked (stopE q e)) w'
theorem Sat.drop2 {A : Hp} {x y : Nat × Obj} (h : Sat g w (x :: y :: (A ++ H))) : Sat g w (x :: y :: H) := Sat.drop (A := A) (h.perm (List.perm_append_comm_assoc [x, y] A H))
def CBody (f : Nat) : Prop :=
  ∀ {p nb d k kd0 q nn : Nat} {t : List UInt8} {names : List (List UInt8)} {nv v : Value} {hpn : Hp} {l : List Tok} {g : G} {w : World} {H : Hp} {R : Ending → World → Prop}, d ≤ 40 → WFL l → TS g v l → names.length + l.length ≤ 5000 → Grow Ty.string 1 nv names.length (names.map str) hpn →
    Sat g w ((p, prs v d) :: (nb, box [i64 (kd0 : Int), str t, i64 (q : Int), i64 (nn : Int), nv, .slice none 0 0]) :: (hpn ++ H)) → body f d k (.mk kd0 t q nn names []) l ≠ .out →
    (∀ n' l', body f d k (.mk kd0 t q nn names []) l = .ok n' l' → OkD g R p nb d H n' l') → (∀ q' e, body f d k (.mk kd0 t q nn names []) l = .bad q' e → BadD g R p nb H q' e) → Tr P F.tree_parser_body [ptr p 0, ptr nb 0, i64 (k : Int)] w R

theorem k_body {f : Nat} (ih : ∀ f' ≤ f, AllOK f') : CBody (f + 1) := by
  intro p nb d k kd0 q nn t names0 nv0 v hpn0 l g w H R hd40 hl hT hnl hgn0 hS hno0 hok0 hbad0
  have hl97 := hl.len
  simp only [body] at hno0 hok0 hbad0
  apply t_tree_parser_body
  unfold d_tree_parser_body
  have done : ∀ {g1 : G} {l1 : List Tok} {v1 : Value} {names : List (List UInt8)} {nv : Value} {hpn : Hp} {kids : List Node} {kcs : List (List Value)} {kv : Value} {hpk : Hp} (w : World), g.le g1 → TS g1 v1 l1 → WFL l1 → Grow Ty.string 1 nv names.length (names.map str) hpn → KR g1 kcs kids → Grow 50 6 kv kids.length kcs.flatten hpk →
      Sat g1 w ((p, prs v1 d) :: (nb, box [i64 (kd0 : Int), str t, i64 (q : Int), i64 (nn : Int), nv, kv]) :: (hpk ++ (hpn ++ H))) → OkD g R p nb d H (.mk kd0 t q nn names kids) l1 → R (.returned (.tuple #[])) w := by
    intro g1 l1 v1 names nv hpn kids kcs kv hpk w hg1 hT1 hl1 hgn hkr hgk h1 hok
    obtain ⟨g2, hg2, h2, hsk⟩ := hgk.freeze (Sat.pull (A := [(p, _), (nb, _)]) h1)
    obtain ⟨g3, hg3, h3, hsn⟩ := hgn.freeze (Sat.pull (A := [(p, _), (nb, _)]) h2)
    have hkr3 := hkr.mono (hg2.trans hg3)
    exact hok g3 _ v1 w (hg1.trans (hg2.trans hg3)) (.mk hsn (hsk.mono hg3) hkr3.1 hkr3.2) (hT1.mono (hg2.trans hg3)) hl1 h3
  obtain ⟨J0, hJ0⟩ : ∃ J0 : Nat → World → Prop, J0 = (fun m w => ∃ g1 l1 v1 kids kcs kv hpk names nv hpn f1, g.le g1 ∧ TS g1 v1 l1 ∧ WFL l1 ∧ m = l1.length ∧ f1 ≤ f ∧ Grow Ty.string 1 nv names.length (names.map str) hpn ∧ kids.length + l1.length ≤ 5000 ∧ KR g1 kcs kids ∧ Grow 50 6 kv kids.length kcs.flatten hpk ∧
    bodyL f1 d k (.mk kd0 t q nn names kids) l1 ≠ .out ∧ (∀ n' l', bodyL f1 d k (.mk kd0 t q nn names kids) l1 = .ok n' l' → OkD g R p nb d H n' l') ∧ (∀ q' e, bodyL f1 d k (.mk kd0 t q nn names kids) l1 = .bad q' e → BadD g R p nb H q' e) ∧
    Sat g1 w ((p, prs v1 d) :: (nb, box [i64 (kd0 : Int), str t, i64 (q : Int), i64 (nn : Int), nv, kv]) :: (hpk ++ (hpn ++ H)))) := ⟨_, rfl⟩
  obtain ⟨J, hJ⟩ : ∃ J : Nat → Nat → List Value → World → Prop, J = (fun m l vs w => l = 0 ∧ vs = [] ∧ J0 m w) := ⟨_, rfl⟩
  refine sc_intro J ?_ ?_
  · refine jn0 (fun w => ∃ m, J0 m w) ?_ ?_
    · rintro w0 ⟨m0, hJw⟩
      rw [hJ0] at hJw
      obtain ⟨g1, l1, v1, kids, kcs, kv, hpk, names, nv, hpn, f1, hg1, hT1, hl1, rfl, hf1, hgn, hks, hkr, hgk, hno, hok, hbad, h1⟩ := hJw
      obtain ⟨f2, rfl⟩ : ∃ f2, f1 = f2 + 1 := by
        cases f1 with
        | zero => simp [bodyL] at hno
        | succ f2 => exact ⟨f2, rfl⟩
      simp only [bodyL] at hno hok hbad
      simp only [↓E2]
      refine c_kind hl1 hT1 h1 ?_
      simp only [↓E1, ↓E2, ↓E3]
      rw [cnd_dec]
      constructor
      · intro hk
        have hb : Nat.beq (kd l1) k = true := by
          have : kd l1 = k := by omega
          rw [this]; exact Nat.beq_refl _
        rw [hb] at hok
        simp only [cond_true] at hok
        exact done _ hg1 hT1 hl1 hgn hkr hgk h1 (hok _ _ rfl)
      intro hk
      have hb : Nat.beq (kd l1) k = false := by
        cases hb : Nat.beq (kd l1) k with
        | false => rfl
        | true => exact absurd (by have := Nat.eq_of_beq_eq_true hb; omega) hk
      rw [hb] at hno hok hbad
      simp only [cond_false] at hno hok hbad
      refine (ih f2 (by omega)).stmt hd40 hl1 hT1 h1 (andThen_not_out hno) (fun n last l2 hr => ?_) (fun q' e hq' => ?_)
      rotate_left
      · rw [hq'] at hbad
        intro g3 v3 d3 w3 hg3 h3
        exact hbad _ _ rfl g3 v3 d3 _ w3 (hg1.trans hg3) rfl (Sat.drop2 (A := hpn) (Sat.drop2 (A := hpk) h3))
      rw [hr] at hno hok hbad
      simp only [andThen_eq_ok] at hno hok hbad
      have hlt := ((prog f2).stmt hr).1
      intro g2 c v2 w2 hg2 hc hT2 hl2 h2
      simp only [↓E2, ↓E3]
      refine h2.al fun b6 w3 h3 => ?_
      refine st_box (c2 := zN) h3 hc.len rfl hc.one fun w4 h4 => ?_
      have h5 := h4.drew
      obtain ⟨a, cp, rfl⟩ := hgk.slice
      simp only [↓h5.ld2, ↓E1, ↓E2, ↓E3, Nat.reduceAdd, Nat.reduceLT]
      have pre : ∀ (K : Value → Value → World → Prop), (∀ (v' : Value) (hp2 : Hp) (w' : World), Grow 50 6 v' (kids.length + 1) (kcs.flatten ++ zN) hp2 → Sat g2 w' (hp2 ++ ((nb, box [i64 (kd0 : Int), str t, i64 (q : Int), i64 (nn : Int), nv, .slice a kids.length cp]) :: (b6, box c) :: (p, prs v2 d) :: (hpn ++ H))) → K v' (.agg c.toArray) w') →
          ldn 6 (ptr b6 0) (fun t43 w => bs 50 zN 1 [(0, 6, .agg zN.toArray)] (fun t45 w => rk true (ptr b6 0) t43 (rk false (ptr nb 5) (.slice a kids.length cp) (ap 50 6 88 zN (.slice a kids.length cp) t45 (fun t46 w => K t46 t43 w) w) w) w) w) w4.drew := by
        intro K hK
        refine h5.ldn0 (c := c) hc.len.symm ?_
        refine h5.bs fillZ fun b8 w6 h6 => ?_
        refine h6.rkA (b := b6) (t := 50) (fr := (0, 0)) (c := c) (by simp) ?_
        refine h6.rk (b := nb) (t := 50) (fr := (0, 0)) (c := [i64 (kd0 : Int), str t, i64 (q : Int), i64 (nn : Int), nv, .slice a kids.length cp]) (by simp) rfl ?_
        have h7 := Sat.pull1 (A := [(b6, _), (p, _), (nb, _)]) h6
        refine Sat.ap1 (m := 1) (c := 1) h7 hgk rfl rfl rfl (by omega) (by omega) fun v' hp2 w8 hg8 h8 => ?_
        exact hK v' hp2 w8 hg8 (Sat.perm h8 (List.Perm.append_left hp2 (List.perm_middle (l₁ := [(b6, _), (p, _)]))))
      constructor
      case' left =>
        refine pre _ fun v' hp2 w8 hg8 h8 => ?_
        refine app_A hg8 zN_len hgk.len hc.len hc.one h8 fun hp3 w9 hg9 h9 => ?_
      case' right =>
        refine pre _ fun v' hp2 w8 hg8 h8 => ?_
        refine app_B hg8 zN_len hgk.len hc.len hc.one h8 fun hp3 w9 hg9 h9 => ?_
      all_goals
        have h10 : Sat g2 w9 ((p, prs v2 d) :: (nb, box [i64 (kd0 : Int), str t, i64 (q : Int), i64 (nn : Int), nv, v']) :: (hp3 ++ (hpn ++ H))) := Sat.swap2 (Sat.pull1 (A := hp3) (hp := [(p, _)]) (Sat.del (A := (nb, _) :: hp3) h9))
        have hkr2 := (hkr.mono hg2).snoc hc
        have hg10 : Grow 50 6 v' (kids ++ [n]).length (kcs ++ [c]).flatten hp3 := by simpa using hg9
        refine jn0 (fun w => ∃ v3 l3, l3 = (bif Nat.beq (kd l2) 14 then tk l2 else l2) ∧ (Nat.beq (kd l2) 14 && !last) = false ∧ TS g2 v3 l3 ∧ WFL l3 ∧ Sat g2 w ((p, prs v3 d) :: (nb, box [i64 (kd0 : Int), str t, i64 (q : Int), i64 (nn : Int), nv, v']) :: (hp3 ++ (hpn ++ H)))) ?_ ?_
        · rintro w11 ⟨v3, l3, hl3, hlast, hT3, hw3, h11⟩
          rw [hlast, ← hl3] at hok hbad
          simp only [cond_false] at hok hbad
          refine c_kind hw3 hT3 h11 ?_
          simp only [↓E1, ↓E2, ↓E3]
          rw [cnd_ndec]
          constructor
          · intro hk3
            have hb3 : Nat.beq (kd l3) k = false := by
              cases hb : Nat.beq (kd l3) k with
              | false => rfl
              | true => exact absurd (by have := Nat.eq_of_beq_eq_true hb; omega) hk3
            rw [hb3] at hbad
            simp only [cond_false, syn] at hbad
            refine c_bad hw3 hT3 h11 ?_
            exact hbad _ _ rfl g2 v3 d _ w11 (hg1.trans hg2) rfl (Sat.drop2 (A := hpn) (Sat.drop2 (A := hp3) h11))
          · intro hk3
            have hb3 : Nat.beq (kd l3) k = true := by
              have : kd l3 = k := by omega
              rw [this]; exact Nat.beq_refl _
            rw [hb3] at hok
            simp only [cond_true] at hok
            exact done _ (hg1.trans hg2) hT3 hw3 hgn hkr2 hg10 h11 (hok _ _ rfl)
        · intro k3 hk3
          refine c_kind hl2 hT2 h10 ?_
          simp only [↓E1, ↓E2, ↓E3]
          rw [cnd_dec]
          constructor
          · intro hk14
            have hb14 := kd_of (l := l2) (k := 14) hk14
            refine c_take hl2 hT2 h10 fun v3 w12 hT3 h12 => ?_
            simp only [↓E2, ↓E3]
            rw [cnd_eq]
            constructor
            · intro hlst
              rw [hb14, hlst] at hno hok hbad
              have e14 : (true && true) = true := rfl
              rw [e14] at hno hok hbad
              simp only [cond_true] at hno hok hbad
              have htk := tk_le l2
              try simp only [↓E3]
              refine ⟨(tk l2).length, by rw [hJ]; exact ⟨rfl, rfl, by rw [hJ0]; exact ⟨g2, tk l2, v3, kids ++ [n], kcs ++ [c], v', hp3, names, nv, hpn, f2, hg1.trans hg2, hT3, hl2.tk, rfl, by omega, hgn, by simp only [List.length_append, List.length_cons, List.length_nil]; omega, hkr2, hg10, hno, hok, hbad, h12⟩⟩⟩
            · intro hlst
              try simp only [↓E3]
              refine hk3 _ ⟨v3, tk l2, by rw [hb14]; rfl, by rw [hb14, hlst]; rfl, hT3, hl2.tk, h12⟩
          · intro hk14
            have hb14 := kd_not (l := l2) (k := 14) hk14
            try simp only [↓E3]
            refine hk3 _ ⟨v2, l2, by rw [hb14]; rfl, by rw [hb14]; rfl, hT2, hl2, h10⟩
    · intro k2 hk2
      simp only [↓E2]
      refine c_kind hl hT hS ?_
      simp only [↓E1, ↓E2, ↓E3]
      rw [cnd_dec]
      constructor
      rotate_left
      · intro hk
        have hb := kd_not (l := l) (k := 12) hk
        rw [hb] at hno0 hok0 hbad0
        simp only [cond_false] at hno0 hok0 hbad0
        exact hk2 _ ⟨l.length, by rw [hJ0]; exact ⟨g, l, v, [], [], _, [], names0, nv0, hpn0, f, .refl g, hT, hl, rfl, Nat.le_refl _, hgn0, by simp; omega, .nil, .nil, hno0, hok0, hbad0, hS⟩⟩
      intro hk
      have hb := kd_of (l := l) (k := 12) hk
      rw [hb] at hno0 hok0 hbad0
      simp only [cond_true] at hno0 hok0 hbad0
      have htl := tk_le l
      refine c_take hl hT hS fun v1 w1 hT1 h1 => ?_
      simp only [↓E3]
      refine lp0 (fun m w => ∃ g1 l1 v1 names nv hpn f1, g.le g1 ∧ TS g1 v1 l1 ∧ WFL l1 ∧ m = l1.length ∧ f1 ≤ f ∧ names.length + l1.length ≤ 5000 ∧ Grow Ty.string 1 nv names.length (names.map str) hpn ∧
        bodyN f1 d k (.mk kd0 t q nn names []) l1 ≠ .out ∧ (∀ n' l', bodyN f1 d k (.mk kd0 t q nn names []) l1 = .ok n' l' → OkD g R p nb d H n' l') ∧ (∀ q' e, bodyN f1 d k (.mk kd0 t q nn names []) l1 = .bad q' e → BadD g R p nb H q' e) ∧
        Sat g1 w ((p, prs v1 d) :: (nb, box [i64 (kd0 : Int), str t, i64 (q : Int), i64 (nn : Int), nv, .slice none 0 0]) :: (hpn ++ H))) rfl (tk l).length
        ⟨g, tk l, v1, names0, nv0, hpn0, f, .refl g, hT1, hl.tk, rfl, Nat.le_refl _, by omega, hgn0, hno0, hok0, hbad0, h1⟩ ?_
      rintro m w2 ⟨g1, l1, v1, names, nv, hpn, f1, hg1, hT1, hl1, rfl, hf1, hnl1, hgn, hno, hok, hbad, h2⟩
      obtain ⟨f2, rfl⟩ : ∃ f2, f1 = f2 + 1 := by
        cases f1 with
        | zero => simp [bodyN] at hno
        | succ f2 => exact ⟨f2, rfl⟩
      simp only [bodyN] at hno hok hbad
      refine c_kind hl1 hT1 h2 ?_
      simp only [↓E1, ↓E2, ↓E3]
      rw [cnd_dec]
      constructor
      · intro hk1
        have hb1 := kd_of (l := l1) (k := 1) hk1
        rw [hb1] at hno hok hbad
        simp only [cond_true, addName, Node.kind, Node.text, Node.pos, Node.n, Node.names, Node.kids] at hno hok hbad
        have hlt := tk_lt hb1 (by decide)
        have h3 := h2.drew
        simp only [↓h3.ld1, ↓E3, Nat.reduceAdd, Nat.reduceLT]
        refine c_take hl1 hT1 h3 fun v2 w4 hT2 h4 => ?_
        simp only [↓E3, fl_tok]
        refine h4.rk (b := nb) (t := 50) (fr := (0, 0)) (c := [i64 (kd0 : Int), str t, i64 (q : Int), i64 (nn : Int), nv, .slice none 0 0]) (by simp) rfl ?_
        refine h4.bs (cs := [str (hd l1).text]) rfl fun b8 w5 h5 => ?_
        refine h5.rk (b := nb) (t := 50) (fr := (0, 0)) (c := [i64 (kd0 : Int), str t, i64 (q : Int), i64 (nn : Int), nv, .slice none 0 0]) (by simp) rfl ?_
        have h6 := Sat.pull1 (A := [(p, _), (nb, _)]) h5
        refine Sat.ap1 (m := 1) (c := 1) h6 hgn rfl rfl rfl (by omega) (by omega) fun nv' hp2 w7 hg7 h7 => ?_
        have h8 := Sat.swap2 (Sat.pull (A := hp2) (hp := [(p, _), (nb, _)]) h7)
        refine Sat.st h8 (by rcases hg7.inv with ⟨rfl, _⟩ | ⟨_, _, _, rfl, _⟩ <;> rfl) (by simp) (by rcases hg7.inv with ⟨rfl, _⟩ | ⟨_, _, _, rfl, _⟩ <;> rfl) fun w9 h9 => ?_
        have e : wr [i64 (kd0 : Int), str t, i64 (q : Int), i64 (nn : Int), nv, .slice none 0 0].toArray 4 nv'.cells.toList = [i64 (kd0 : Int), str t, i64 (q : Int), i64 (nn : Int), nv', .slice none 0 0].toArray := by
          rcases hg7.inv with ⟨rfl, _⟩ | ⟨_, _, _, rfl, _⟩ <;> rfl
        rw [e] at h9
        refine ⟨(tk l1).length, hlt, trivial, g1, tk l1, v2, names ++ [(hd l1).text], nv', hp2, f2, hg1, hT2, hl1.tk, rfl, by omega, ?_, ?_, hno, hok, hbad, h9.swap2⟩
        · simp only [List.length_append, List.length_cons, List.length_nil]; omega
        · simpa using hg7
      · intro hk1
        have hb1 := kd_not (l := l1) (k := 1) hk1
        rw [hb1] at hno hok hbad
        simp only [cond_false] at hno hok hbad
        have htl1 := tk_le l1
        refine c_need (k := 12) hl1 hT1 h2 (fun v2 w4 hn hT2 h4 => ?_) (fun w4 hn h4 => ?_)
        · rw [hn] at hno hok hbad
          simp only [andThen_eq_ok] at hno hok hbad
          simp only [↓E3]
          exact hk2 _ ⟨(tk l1).length, by rw [hJ0]; exact ⟨g1, tk l1, v2, [], [], _, [], names, nv, hpn, f2, hg1, hT2, hl1.tk, rfl, by omega, hgn, by simp; omega, .nil, .nil, hno, hok, hbad, h4⟩⟩
        · rw [hn] at hbad
          exact hbad _ _ rfl g1 v1 d _ w4 hg1 rfl (Sat.drop2 (A := hpn) h4)
  · intro pr hpr m0
    simp only [List.mem_singleton] at hpr
    subst hpr
    intro w0 hJw
    rw [hJ] at hJw
    obtain ⟨_, _, hJw⟩ := hJw
    rw [hJ0] at hJw
    obtain ⟨g1, l1, v1, kids, kcs, kv, hpk, names, nv, hpn, f1, hg1, hT1, hl1, rfl, hf1, hgn, hks, hkr, hgk, hno, hok, hbad, h1⟩ := hJw
    obtain ⟨f2, rfl⟩ : ∃ f2, f1 = f2 + 1 := by
      cases f1 with
      | zero => simp [bodyL] at hno
      | succ f2 => exact ⟨f2, rfl⟩
    simp only [bodyL] at hno hok hbad
    simp only [↓E2]
    refine c_kind hl1 hT1 h1 ?_
    simp only [↓E1, ↓E2, ↓E3]
    rw [cnd_dec]
    constructor
    · intro hk
      have hb : Nat.beq (kd l1) k = true := by
        have : kd l1 = k := by omega
        rw [this]; exact Nat.beq_refl _
      rw [hb] at hok
      simp only [cond_true] at hok
      exact done _ hg1 hT1 hl1 hgn hkr hgk h1 (hok _ _ rfl)
    intro hk
    have hb : Nat.beq (kd l1) k = false := by
      cases hb : Nat.beq (kd l1) k with
      | false => rfl
      | true => exact absurd (by have := Nat.eq_of_beq_eq_true hb; omega) hk
    rw [hb] at hno hok hbad
    simp only [cond_false] at hno hok hbad
    refine (ih f2 (by omega)).stmt hd40 hl1 hT1 h1 (andThen_not_out hno) (fun n last l2 hr => ?_) (fun q' e hq' => ?_)
    rotate_left
    · rw [hq'] at hbad
      intro g3 v3 d3 w3 hg3 h3
      exact hbad _ _ rfl g3 v3 d3 _ w3 (hg1.trans hg3) rfl (Sat.drop2 (A := hpn) (Sat.drop2 (A := hpk) h3))
    rw [hr] at hno hok hbad
    simp only [andThen_eq_ok] at hno hok hbad
    have hlt := ((prog f2).stmt hr).1
    intro g2 c v2 w2 hg2 hc hT2 hl2 h2
    simp only [↓E2, ↓E3]
    refine h2.al fun b6 w3 h3 => ?_
    refine st_box (c2 := zN) h3 hc.len rfl hc.one fun w4 h4 => ?_
    have h5 := h4.drew
    obtain ⟨a, cp, rfl⟩ := hgk.slice
    simp only [↓h5.ld2, ↓E1, ↓E2, ↓E3, Nat.reduceAdd, Nat.reduceLT]
    have pre : ∀ (K : Value → Value → World → Prop), (∀ (v' : Value) (hp2 : Hp) (w' : World), Grow 50 6 v' (kids.length + 1) (kcs.flatten ++ zN) hp2 → Sat g2 w' (hp2 ++ ((nb, box [i64 (kd0 : Int), str t, i64 (q : Int), i64 (nn : Int), nv, .slice a kids.length cp]) :: (b6, box c) :: (p, prs v2 d) :: (hpn ++ H))) → K v' (.agg c.toArray) w') →
        ldn 6 (ptr b6 0) (fun t43 w => bs 50 zN 1 [(0, 6, .agg zN.toArray)] (fun t45 w => rk true (ptr b6 0) t43 (rk false (ptr nb 5) (.slice a kids.length cp) (ap 50 6 88 zN (.slice a kids.length cp) t45 (fun t46 w => K t46 t43 w) w) w) w) w) w4.drew := by
      intro K hK
      refine h5.ldn0 (c := c) hc.len.symm ?_
      refine h5.bs fillZ fun b8 w6 h6 => ?_
      refine h6.rkA (b := b6) (t := 50) (fr := (0, 0)) (c := c) (by simp) ?_
      refine h6.rk (b := nb) (t := 50) (fr := (0, 0)) (c := [i64 (kd0 : Int), str t, i64 (q : Int), i64 (nn : Int), nv, .slice a kids.length cp]) (by simp) rfl ?_
      have h7 := Sat.pull1 (A := [(b6, _), (p, _), (nb, _)]) h6
      refine Sat.ap1 (m := 1) (c := 1) h7 hgk rfl rfl rfl (by omega) (by omega) fun v' hp2 w8 hg8 h8 => ?_
      exact hK v' hp2 w8 hg8 (Sat.perm h8 (List.Perm.append_left hp2 (List.perm_middle (l₁ := [(b6, _), (p, _)]))))
    constructor
    case' left =>
      refine pre _ fun v' hp2 w8 hg8 h8 => ?_
      refine app_A hg8 zN_len hgk.len hc.len hc.one h8 fun hp3 w9 hg9 h9 => ?_
    case' right =>
      refine pre _ fun v' hp2 w8 hg8 h8 => ?_
      refine app_B hg8 zN_len hgk.len hc.len hc.one h8 fun hp3 w9 hg9 h9 => ?_
    all_goals
      have h10 : Sat g2 w9 ((p, prs v2 d) :: (nb, box [i64 (kd0 : Int), str t, i64 (q : Int), i64 (nn : Int), nv, v']) :: (hp3 ++ (hpn ++ H))) := Sat.swap2 (Sat.pull1 (A := hp3) (hp := [(p, _)]) (Sat.del (A := (nb, _) :: hp3) h9))
      have hkr2 := (hkr.mono hg2).snoc hc
      have hg10 : Grow 50 6 v' (kids ++ [n]).length (kcs ++ [c]).flatten hp3 := by simpa using hg9
      refine jn0 (fun w => ∃ v3 l3, l3 = (bif Nat.beq (kd l2) 14 then tk l2 else l2) ∧ (Nat.beq (kd l2) 14 && !last) = false ∧ TS g2 v3 l3 ∧ WFL l3 ∧ Sat g2 w ((p, prs v3 d) :: (nb, box [i64 (kd0 : Int), str t, i64 (q : Int), i64 (nn : Int), nv, v']) :: (hp3 ++ (hpn ++ H)))) ?_ ?_
      · rintro w11 ⟨v3, l3, hl3, hlast, hT3, hw3, h11⟩
        rw [hlast, ← hl3] at hok hbad
        simp only [cond_false] at hok hbad
        refine c_kind hw3 hT3 h11 ?_
        simp only [↓E1, ↓E2, ↓E3]
        rw [cnd_ndec]
        constructor
        · intro hk3
          have hb3 : Nat.beq (kd l3) k = false := by
            cases hb : Nat.beq (kd l3) k with
            | false => rfl
            | true => exact absurd (by have := Nat.eq_of_beq_eq_true hb; omega) hk3
          rw [hb3] at hbad
          simp only [cond_false, syn] at hbad
          refine c_bad hw3 hT3 h11 ?_
          exact hbad _ _ rfl g2 v3 d _ w11 (hg1.trans hg2) rfl (Sat.drop2 (A := hpn) (Sat.drop2 (A := hp3) h11))
        · intro hk3
          have hb3 : Nat.beq (kd l3) k = true := by
            have : kd l3 = k := by omega
            rw [this]; exact Nat.beq_refl _
          rw [hb3] at hok
          simp only [cond_true] at hok
          exact done _ (hg1.trans hg2) hT3 hw3 hgn hkr2 hg10 h11 (hok _ _ rfl)
      · intro k3 hk3
        refine c_kind hl2 hT2 h10 ?_
        simp only [↓E1, ↓E2, ↓E3]
        rw [cnd_dec]
        constructor
        · intro hk14
          have hb14 := kd_of (l := l2) (k := 14) hk14
          refine c_take hl2 hT2 h10 fun v3 w12 hT3 h12 => ?_
          simp only [↓E2, ↓E3]
          rw [cnd_eq]
          constructor
          · intro hlst
            rw [hb14, hlst] at hno hok hbad
            have e14 : (true && true) = true := rfl
            rw [e14] at hno hok hbad
            simp only [cond_true] at hno hok hbad
            have htk := tk_le l2
            try simp only [↓E3]
            refine ⟨(tk l2).length, by omega, by rw [hJ]; exact ⟨rfl, rfl, by rw [hJ0]; exact ⟨g2, tk l2, v3, kids ++ [n], kcs ++ [c], v', hp3, names, nv, hpn, f2, hg1.trans hg2, hT3, hl2.tk, rfl, by omega, hgn, by simp only [List.length_append, List.length_cons, List.length_nil]; omega, hkr2, hg10, hno, hok, hbad, h12⟩⟩⟩
          · intro hlst
            try simp only [↓E3]
            refine hk3 _ ⟨v3, tk l2, by rw [hb14]; rfl, by rw [hb14, hlst]; rfl, hT3, hl2.tk, h12⟩
        · intro hk14
          have hb14 := kd_not (l := l2) (k := 14) hk14
          try simp only [↓E3]
          refine hk3 _ ⟨v2, l2, by rw [hb14]; rfl, by rw [hb14]; rfl, hT2, hl2, h10⟩
end Go.Vx
namespace Go.Vx
open Go Go.Proofs
variable {R : Ending → World → Prop} {g : G} {w : World} {H hp T : Hp}

theorem k_blk {f : Nat} (ihb : ∀ f' ≤ f, CBody f') : CN F.tree_parser_block (blk (f + 1)) := by
  intro p d l v g w H R hd40 hl hT hS hno hok hbad
  simp only [blk] at hno hok hbad
  apply t_tree_parser_block
  unfold d_tree_parser_block
  rw [pcells]
  refine hS.al fun b1 w1 h1 => h1.al fun b2 w2 h2 => ?_
  have h3 : Sat g w2 ((p, prs v d) :: (b2, box zN) :: (b1, pbx p) :: H) := h2.perm (List.perm_middle (l₁ := [(b2, _), (b1, _)]))
  simp only [↓E1, ↓E2, ↓E3, ↓h3.ld2, ↓h3.ld0, Nat.reduceAdd, Nat.reduceLT]
  refine TS.at hT (j := 0) h3 hl.hd.1 fun b o _ _ c2 => ?_
  simp only [↓E1]
  rw [h3.ldI c2]
  refine bdI (cs := [i64 ((10 : Nat) : Int), str [], i64 ((hd l).pos : Int), i64 ((0 : Nat) : Int), .slice none 0 0, .slice none 0 0]) rfl ?_
  refine h3.al fun b3 w4 h4 => ?_
  refine st_box (c2 := zN) h4 rfl rfl rfl fun w5 h5 => ?_
  have h6 := h5.swap2
  rw [h6.ld3 0 _ (by simp)]
  simp only [List.getD_cons_zero]
  refine c_within hd40 hl hT h6 (fun h40 w7 h7 => ?_) (fun h40 v2 w7 hT2 h7 => ?_)
  · have hw : within d l (fun d l1 => blkN f d (hd l).pos [] l1) = .bad (hd l).pos 3 := by unfold within; rw [h40]; rfl
    exact bad_syn ((hbad _ _ hw).drop.drop.drop) h7
  have hw : within d l (fun d l1 => blkN f d (hd l).pos [] l1) = blkN f (d + 1) (hd l).pos [] (tk l) := by unfold within; rw [h40]; rfl
  rw [hw] at hno hok hbad
  have hd39 : d + 1 ≤ 40 := by
    have : d ≠ 40 := fun e => by rw [e] at h40; simp at h40
    omega
  have hl97 := hl.len
  have htl := tk_le l
  show Tr P F.tree_parser_block_1 [ptr b1 0, ptr b3 0] w7 _
  generalize hRR : (fun (e : Ending) (w2 : World) => match e with
      | .returned _ => ∃ g2 v2 H2, Sat g2 w2 ((p, prs v2 (d + 1)) :: H2) ∧ ∀ w3, Sat g2 w3 ((p, prs v2 d) :: H2) → Vx.back (fun _ w => ldn 6 (ptr b3 0) (fun t15 w => st 6 (ptr b2 0) t15 (fun w => ldn 6 (ptr b2 0) (fun r0 w => R (.returned r0) w) w) w) w) (fun ch w => R (.panicked ch) w) (.returned (.tuple #[])) w3
      | .panicked ch => Vx.back (fun _ w => ldn 6 (ptr b3 0) (fun t15 w => st 6 (ptr b2 0) t15 (fun w => ldn 6 (ptr b2 0) (fun r0 w => R (.returned r0) w) w) w) w) (fun ch w => R (.panicked ch) w) (.panicked ch) w2
      | .outgrown => False : Ending → World → Prop) = RR
  have hRp : ∀ ch w, R (.panicked ch) w → RR (.panicked ch) w := by intro ch w h; rw [← hRR]; exact h
  have hRo : ∀ {n : Node} {l' : List Tok} {g2 : G} {c : List Value} {v2 : Value} {w : World}, OkN g R p d H n l' → g.le g2 → NodeR g2 c n → TS g2 v2 l' → WFL l' → Sat g2 w ((p, prs v2 (d + 1)) :: (b3, box c) :: (b2, box zN) :: (b1, pbx p) :: H) → RR (.returned (.tuple #[])) w := by
    intro n l' g2 c v2 w hk hg2 hc hT2 hl2 h
    rw [← hRR]
    refine ⟨g2, v2, _, h, fun w12 h12 => ?_⟩
    have h13 : Sat g2 w12 ((b3, box c) :: (b2, box zN) :: (p, prs v2 d) :: H) :=
      Sat.perm (Sat.del (A := [(p, _), (b3, _), (b2, _)]) h12) (List.perm_middle (l₁ := [(b3, _), (b2, _)])).symm
    refine ret_box h13 hc.len rfl hc.one fun w14 h14 => ?_
    exact hk g2 c v2 w14 hg2 hc hT2 hl2 h14
  apply t_tree_parser_block_1
  unfold d_tree_parser_block_1
  have h7 : Sat g w7 ((p, prs v2 (d + 1)) :: (b3, box [i64 ((10 : Nat) : Int), str [], i64 ((hd l).pos : Int), i64 ((0 : Nat) : Int), .slice none 0 0, .slice none 0 0]) :: ([] ++ ((b2, box zN) :: (b1, pbx p) :: H))) := h7
  refine lp0 (fun m w => ∃ g2 l2 v2 names nv hp f1, g.le g2 ∧ TS g2 v2 l2 ∧ WFL l2 ∧ m = l2.length ∧ f1 ≤ f ∧ names.length + l2.length ≤ 5000 ∧ Grow Ty.string 1 nv names.length (names.map str) hp ∧
    blkN f1 (d + 1) (hd l).pos names l2 ≠ .out ∧ (∀ n l', blkN f1 (d + 1) (hd l).pos names l2 = .ok n l' → OkN g R p d H n l') ∧ (∀ q' e, blkN f1 (d + 1) (hd l).pos names l2 = .bad q' e → Bad g R p H q' e) ∧
    Sat g2 w ((p, prs v2 (d + 1)) :: (b3, box [i64 ((10 : Nat) : Int), str [], i64 ((hd l).pos : Int), i64 ((0 : Nat) : Int), nv, .slice none 0 0]) :: (hp ++ ((b2, box zN) :: (b1, pbx p) :: H)))) rfl (tk l).length
    ⟨g, tk l, v2, [], _, [], f, .refl g, hT2, hl.tk, rfl, Nat.le_refl _, by simp; omega, .nil, hno, hok, hbad, h7⟩ ?_
  clear h7 h6 h5 h4 h3 h2 h1 hno hok hbad hw
  rintro m w8 ⟨g2, l2, v3, names, nv, hp, f1, hg2, hT3, hl2, rfl, hf1, hks, hgr, hno, hok, hbad, h8⟩
  obtain ⟨f2, rfl⟩ : ∃ f2, f1 = f2 + 1 := by
    cases f1 with
    | zero => simp [blkN] at hno
    | succ f2 => exact ⟨f2, rfl⟩
  simp only [blkN] at hno hok hbad
  have ldp : ∀ {g : G} {w : World} {d : Nat} {v : Value} {c : List Value} {hp : Hp} (h : Sat g w ((p, prs v d) :: (b3, box c) :: (hp ++ ((b2, box zN) :: (b1, pbx p) :: H)))) (K : Value → World → Prop), ld (ptr b1 0) K w = K (ptr p 0) w :=
    fun h K => h.ldH (b := b1) (c := [ptr p 0]) (t := Ty.p_tree_parser) (fr := (0, 0)) (by simp) 0 K (by simp)
  have dropH : ∀ {g : G} {w : World} {d : Nat} {v : Value} {x : Obj} {hp : Hp}, Sat g w ((p, prs v d) :: (b3, x) :: (hp ++ ((b2, box zN) :: (b1, pbx p) :: H))) → Sat g w ((p, prs v d) :: H) :=
    fun {_ _ _ _ _ hp} h => Sat.drop1 (A := [(b2, _), (b1, _)]) (Sat.drop1 (A := (b3, _) :: hp) h)
  rw [ldp h8]
  simp only [↓E2]
  refine c_kind hl2 hT3 h8 ?_
  simp only [↓E1, ↓E2, ↓E3]
  rw [cnd_dec]
  constructor
  · intro hk
    have hb := kd_of (l := l2) (k := 16) hk
    rw [hb] at hno hok hbad
    simp only [cond_true] at hno hok hbad
    have hlt := tk_lt hb (by decide)
    have htl2 := tk_le (tk l2)
    rw [ldp h8]
    refine c_take hl2 hT3 h8 fun v4 w9 hT4 h9 => ?_
    have h10 := h9.drew
    simp only [↓h10.ld1, ldp h10, ↓E3, Nat.reduceAdd, Nat.reduceLT]
    refine c_need (k := 1) hl2.tk hT4 h10 (fun v5 w11 hn hT5 h11 => ?_) (fun w11 hn h11 => ?_)
    · rw [hn] at hno hok hbad
      simp only [andThen_eq_ok] at hno hok hbad
      simp only [↓E3, fl_tok]
      refine h11.rk (b := b3) (t := 50) (fr := (0, 0)) (c := [i64 ((10 : Nat) : Int), str [], i64 ((hd l).pos : Int), i64 ((0 : Nat) : Int), nv, .slice none 0 0]) (by simp) rfl ?_
      refine h11.bs (cs := [str (hd (tk l2)).text]) rfl fun b8 w12 h12 => ?_
      refine h12.rk (b := b3) (t := 50) (fr := (0, 0)) (c := [i64 ((10 : Nat) : Int), str [], i64 ((hd l).pos : Int), i64 ((0 : Nat) : Int), nv, .slice none 0 0]) (by simp) rfl ?_
      have h13 := Sat.pull1 (A := [(p, _), (b3, _)]) h12
      refine Sat.ap1 (m := 1) (c := 1) h13 hgr rfl rfl rfl (by omega) (by omega) fun nv' hp2 w14 hg14 h14 => ?_
      have h15 := Sat.swap2 (Sat.pull (A := hp2) (hp := [(p, _), (b3, _)]) h14)
      refine Sat.st h15 (by rcases hg14.inv with ⟨rfl, _⟩ | ⟨_, _, _, rfl, _⟩ <;> rfl) (by simp) (by rcases hg14.inv with ⟨rfl, _⟩ | ⟨_, _, _, rfl, _⟩ <;> rfl) fun w16 h16 => ?_
      have e : wr [i64 ((10 : Nat) : Int), str [], i64 ((hd l).pos : Int), i64 ((0 : Nat) : Int), nv, .slice none 0 0].toArray 4 nv'.cells.toList = [i64 ((10 : Nat) : Int), str [], i64 ((hd l).pos : Int), i64 ((0 : Nat) : Int), nv', .slice none 0 0].toArray := by
        rcases hg14.inv with ⟨rfl, _⟩ | ⟨_, _, _, rfl, _⟩ <;> rfl
      rw [e] at h16
      refine ⟨(tk (tk l2)).length, by omega, trivial, g2, tk (tk l2), v5, names ++ [(hd (tk l2)).text], nv', hp2, f2, hg2, hT5, hl2.tk.tk, rfl, by omega, ?_, ?_, hno, hok, hbad, h16.swap2⟩
      · simp only [List.length_append, List.length_cons, List.length_nil]; omega
      · simpa using hg14
    · rw [hn] at hbad
      exact hRp _ _ (hbad _ _ rfl g2 v4 (d + 1) w11 hg2 (dropH h11))
  · intro hk
    have hb := kd_not (l := l2) (k := 16) hk
    rw [hb] at hno hok hbad
    simp only [cond_false] at hno hok hbad
    -- the body, and the last word
    have fin : ∀ {l3 : List Tok} {v4 : Value} {w9 : World}, TS g2 v4 l3 → WFL l3 → l3.length ≤ l2.length → Sat g2 w9 ((p, prs v4 (d + 1)) :: (b3, box [i64 ((10 : Nat) : Int), str [], i64 ((hd l).pos : Int), i64 (names.length : Int), nv, .slice none 0 0]) :: (hp ++ ((b2, box zN) :: (b1, pbx p) :: H))) →
        ((body f2 (d + 1) 11 (.mk 10 [] (hd l).pos names.length names []) l3).andThen fun n l2 => Res.ok n (tk l2)) ≠ .out → (∀ n l', ((body f2 (d + 1) 11 (.mk 10 [] (hd l).pos names.length names []) l3).andThen fun n l2 => Res.ok n (tk l2)) = .ok n l' → OkN g R p d H n l') →
        (∀ q' e, ((body f2 (d + 1) 11 (.mk 10 [] (hd l).pos names.length names []) l3).andThen fun n l2 => Res.ok n (tk l2)) = .bad q' e → Bad g R p H q' e) →
        ld (ptr b1 0) (fun t29 w => Tr P F.tree_parser_body [t29, ptr b3 0, i64 11] w (Vx.back (fun _ w => ld (ptr b1 0) (fun t31 w => Tr P F.tree_parser_take [t31] w (Vx.back (fun _ w => RR (.returned (.tuple #[])) w) (fun ch w => RR (.panicked ch) w))) w) (fun ch w => RR (.panicked ch) w))) w9 := by
      intro l3 v4 w9 hT4 hl3 hle h9 hno hok hbad
      rw [ldp h9]
      refine ihb f2 (by omega) (k := 11) hd39 hl3 hT4 (by omega) hgr h9 (andThen_not_out hno) (fun n l4 hr => ?_) (fun q' e hq => ?_)
      · rw [hr] at hok
        simp only [andThen_eq_ok] at hok
        intro g3 c v5 w10 hg3 hc hT5 hl5 h10
        simp only [↓E3]
        rw [ldp (hp := []) h10]
        refine c_take hl5 hT5 h10 fun v6 w11 hT6 h11 => ?_
        simp only [↓E3]
        exact hRo (hok _ _ rfl) (hg2.trans hg3) hc hT6 hl5.tk h11
      · rw [hq] at hbad
        intro g3 v5 d5 x w10 hg3 _ h10
        exact hRp _ _ (hbad _ _ rfl g3 v5 d5 w10 (hg2.trans hg3) (Sat.drop1 (A := [(b3, _), (b2, _), (b1, _)]) h10))
    obtain ⟨a, cp, rfl⟩ := hgr.slice
    simp only [↓h8.ld1, ↓E1, ↓E2, ↓E3, Nat.reduceAdd, Nat.reduceLT]
    refine h8.swap2.st rfl (by simp) rfl fun w9 h9 => ?_
    have h9 : Sat g2 w9 ((p, prs v3 (d + 1)) :: (b3, box [i64 ((10 : Nat) : Int), str [], i64 ((hd l).pos : Int), i64 (names.length : Int), .slice a names.length cp, .slice none 0 0]) :: (hp ++ ((b2, box zN) :: (b1, pbx p) :: H))) := Sat.swap2 h9
    simp only [↓h9.ld1, ↓E1, ↓E2, ↓E3, Nat.reduceAdd, Nat.reduceLT]
    rw [cnd_dec]
    constructor
    · intro hpos
      have hb0 : Nat.blt 0 names.length = true := by rw [Nat.blt_eq]; omega
      rw [hb0, Bool.true_and] at hno hok hbad
      rw [ldp h9]
      refine c_kind hl2 hT3 h9 ?_
      simp only [↓E1, ↓E2, ↓E3]
      rw [cnd_ndec]
      constructor
      · intro hk11
        have hb11 := kd_not (l := l2) (k := 11) hk11
        rw [hb11] at hno hok hbad
        simp only [Bool.not_false, cond_true] at hno hok hbad
        have htl2 := tk_le l2
        rw [ldp h9]
        refine c_need (k := 12) hl2 hT3 h9 (fun v4 w10 hn hT4 h10 => ?_) (fun w10 hn h10 => ?_)
        · rw [hn] at hno hok hbad
          simp only [andThen_eq_ok] at hno hok hbad
          simp only [↓E3]
          exact fin hT4 hl2.tk htl2 h10 hno hok hbad
        · rw [hn] at hbad
          exact hRp _ _ (hbad _ _ rfl g2 v3 (d + 1) w10 hg2 (dropH h10))
      · intro hk11
        have hb11 := kd_of (l := l2) (k := 11) hk11
        rw [hb11] at hno hok hbad
        simp only [Bool.not_true, cond_false] at hno hok hbad
        exact fin hT3 hl2 (Nat.le_refl _) h9 hno hok hbad
    · intro hpos
      have hb0 : Nat.blt 0 names.length = false := by
        cases hb : Nat.blt 0 names.length with
        | false => rfl
        | true => rw [Nat.blt_eq] at hb; omega
      rw [hb0, Bool.false_and] at hno hok hbad
      simp only [cond_false] at hno hok hbad
      exact fin hT3 hl2 (Nat.le_refl _) h9 hno hok hbad
end Go.Vx
namespace Go.Vx
open Go Go.Proofs
variable {R : Ending → World → Prop} {g : G} {w : World} {H hp T : Hp}

theorem k_prim {f : Nat} (ih : ∀ f' ≤ f, AllOK f') : CB F.tree_parser_primary (prim (f + 1)) := by
  intro p d l v g w H R hd40 hl hT hS hno hok hbad
  simp only [prim] at hno hok hbad
  apply t_tree_parser_primary
  unfold d_tree_parser_primary
  rw [pcells]
  refine hS.al fun b1 w1 h1 => h1.al fun b2 w2 h2 => ?_
  have h3 : Sat g w2 ((p, prs v d) :: (b2, box zN) :: (b1, pbx p) :: H) := h2.perm (List.perm_middle (l₁ := [(b2, _), (b1, _)]))
  simp only [↓E1, ↓E2, ↓E3, ↓h3.ld2, ↓h3.ld0, Nat.reduceAdd, Nat.reduceLT]
  refine hT.ldHd hl h3 ?_
  refine h3.al fun b4 w4 h4 => ?_
  refine h4.st (c := [i64 0, str [], i64 0]) rfl (by simp) rfl fun w5 h5 => ?_
  have h5 : Sat g w5 ((b4, tbx (hd l)) :: (p, prs v d) :: (b2, box zN) :: (b1, pbx p) :: H) := h5
  simp only [↓E1, Nat.reduceAdd]
  rw [h5.ld0 1 _ (by simp [tokCells])]
  rw [h5.ld0 2 _ (by simp [tokCells])]
  refine bdI (cs := [i64 ((0 : Nat) : Int), str (hd l).text, i64 ((hd l).pos : Int), i64 ((0 : Nat) : Int), .slice none 0 0, .slice none 0 0]) rfl ?_
  refine h5.al fun b5 w6 h6 => ?_
  refine st_box (c2 := zN) h6 rfl rfl rfl fun w7 h7 => ?_
  have h8 : Sat g w7 ((p, prs v d) :: (b5, box [i64 ((0 : Nat) : Int), str (hd l).text, i64 ((hd l).pos : Int), i64 ((0 : Nat) : Int), .slice none 0 0, .slice none 0 0]) :: (b4, tbx (hd l)) :: (b2, box zN) :: (b1, pbx p) :: H) :=
    h7.perm (List.perm_middle (l₁ := [(b5, _), (b4, _)]))
  clear h1 h2 h3 h4 h5 h6 h7
  have ldp : ∀ {g : G} {w : World} {d : Nat} {v : Value} {c : List Value} (h : Sat g w ((p, prs v d) :: (b5, box c) :: (b4, tbx (hd l)) :: (b2, box zN) :: (b1, pbx p) :: H)) (K : Value → World → Prop), ld (ptr b1 0) K w = K (ptr p 0) w :=
    fun h K => h.ldH (b := b1) (c := [ptr p 0]) (t := Ty.p_tree_parser) (fr := (0, 0)) (by simp) 0 K (by simp)
  -- at the end
  have fin : ∀ {g1 : G} {v1 : Value} {c : List Value} {w : World} {n : Node} {bb : Bool} {l' : List Tok}, OkB g R p d H n bb l' → g.le g1 → NodeR g1 c n → TS g1 v1 l' → WFL l' → Sat g1 w ((p, prs v1 d) :: (b5, box c) :: (b4, tbx (hd l)) :: (b2, box zN) :: (b1, pbx p) :: H) →
      ldn 6 (ptr b5 0) (fun t w => st 6 (ptr b2 0) t (fun w => ldn 6 (ptr b2 0) (fun r0 w => R (.returned (.tuple #[r0, .bool bb])) w) w) w) w := by
    intro g1 v1 c w n bb l' hk hg1 hc hT1 hl1 h
    have h1 := Sat.del (A := [(p, _), (b5, _), (b2, _)]) (Sat.del (A := [(p, _), (b5, _)]) h)
    have h2 := Sat.perm h1 (List.perm_middle (l₁ := [(b5, _), (b2, _)])).symm
    refine ret_box h2 hc.len rfl hc.one fun w9 h9 => ?_
    exact hk g1 c v1 w9 hg1 hc hT1 hl1 h9
  refine jn1 (fun _ w => ∃ kk, OkB g R p d H (.mk kk (hd l).text (hd l).pos 0 [] []) true (tk l) ∧ Sat g w ((p, prs v d) :: (b5, box [i64 (kk : Int), str (hd l).text, i64 ((hd l).pos : Int), i64 ((0 : Nat) : Int), .slice none 0 0, .slice none 0 0]) :: (b4, tbx (hd l)) :: (b2, box zN) :: (b1, pbx p) :: H)) ?_ ?_
  · rintro x w9 ⟨kk, hk, h9⟩
    rw [ldp h9]
    try simp only [↓E2]
    refine c_take hl hT h9 fun v1 w10 hT1 h10 => ?_
    simp only [↓E3]
    exact fin hk (.refl g) (nodeR_leaf g kk _ _) hT1 hl.tk h10
  · intro k1 hk1
    simp only [↓E1, Nat.reduceAdd]
    rw [h8.ld2 0 _ (by simp [tokCells])]
    simp only [tokCells, ↓E1, ↓E2, ↓E3, Nat.reduceAdd]
    have lf : ∀ {kk : Nat} {x : Value}, OkB g R p d H (.mk kk (hd l).text (hd l).pos 0 [] []) true (tk l) → st 1 (ptr b5 0) (i64 (kk : Int)) (fun w => k1 x w) w7 := by
      intro kk x hk
      refine h8.swap2.st rfl (by simp) rfl fun w9 h9 => ?_
      exact hk1 _ _ ⟨kk, hk, Sat.swap2 h9⟩
    rw [cnd_dec]
    constructor
    · intro hk
      rw [kd_of (l := l) (k := 1) hk] at hok
      exact lf (kk := 5) (hok _ _ _ rfl)
    intro hk
    rw [kd_not (l := l) (k := 1) hk] at hno hok hbad
    simp only [cond_false] at hno hok hbad
    rw [cnd_dec]
    constructor
    · intro hk
      rw [kd_of (l := l) (k := 4) hk] at hok
      exact lf (kk := 1) (hok _ _ _ rfl)
    intro hk
    rw [kd_not (l := l) (k := 4) hk] at hno hok hbad
    simp only [cond_false] at hno hok hbad
    rw [cnd_dec]
    constructor
    · intro hk
      rw [kd_of (l := l) (k := 5) hk] at hok
      exact lf (kk := 2) (hok _ _ _ rfl)
    intro hk
    rw [kd_not (l := l) (k := 5) hk] at hno hok hbad
    simp only [cond_false] at hno hok hbad
    rw [cnd_dec]
    constructor
    · intro hk
      rw [kd_of (l := l) (k := 6) hk] at hok
      exact lf (kk := 3) (hok _ _ _ rfl)
    intro hk
    rw [kd_not (l := l) (k := 6) hk] at hno hok hbad
    simp only [cond_false] at hno hok hbad
    have sub : ∀ {fn : Nat} {spec : Nat → List Tok → Res Node}, CN fn spec → ((spec d l).andThen fun n l1 => Res.ok (n, true) l1) ≠ .out → (∀ n b l', ((spec d l).andThen fun n l1 => Res.ok (n, true) l1) = .ok (n, b) l' → OkB g R p d H n b l') → (∀ q e, ((spec d l).andThen fun n l1 => Res.ok (n, true) l1) = .bad q e → Bad g R p H q e) →
        Tr P fn [ptr p 0] w7 (Vx.back (fun t36 w => st 6 (ptr b2 0) t36 (fun w => ldn 6 (ptr b2 0) (fun r0 w => R (.returned (.tuple #[r0, .bool true])) w) w) w) (fun ch w => R (.panicked ch) w)) := by
      intro fn spec hC hno hok hbad
      refine hC hd40 hl hT h8 (andThen_not_out hno) (fun n l1 hr => ?_) (fun q e hq => ?_)
      · rw [hr] at hok
        simp only [andThen_eq_ok] at hok
        intro g1 c v1 w9 hg1 hc hT1 hl1 h9
        simp only [↓E3]
        have h10 := Sat.del (A := [(p, _)]) (Sat.del (A := [(p, _), (b5, _)]) h9)
        refine st_box (Sat.swap2 h10) hc.len rfl hc.one fun w11 h11 => ?_
        refine h11.ldn0 (c := c) hc.len.symm ?_
        exact hok _ _ _ rfl g1 c v1 w11 hg1 hc hT1 hl1 (Sat.drop1 (A := [(b1, _)]) h11.tail)
      · rw [hq] at hbad
        exact (hbad _ _ rfl).drop.drop.drop.drop
    rw [cnd_dec]
    constructor
    · intro hk
      rw [kd_of (l := l) (k := 17) hk] at hno hok hbad
      rw [ldp h8]
      exact sub (ih f (Nat.le_refl _)).lst hno hok hbad
    intro hk
    rw [kd_not (l := l) (k := 17) hk] at hno hok hbad
    simp only [cond_false] at hno hok hbad
    rw [cnd_dec]
    constructor
    · intro hk
      rw [kd_of (l := l) (k := 10) hk] at hno hok hbad
      rw [ldp h8]
      exact sub (ih f (Nat.le_refl _)).blk hno hok hbad
    intro hk
    rw [kd_not (l := l) (k := 10) hk] at hno hok hbad
    simp only [cond_false] at hno hok hbad
    rw [cnd_dec]
    constructor
    · intro hk
      rw [kd_of (l := l) (k := 8) hk] at hno hok hbad
      simp only [cond_true] at hno hok hbad
      rw [ldp h8]
      refine c_within hd40 hl hT h8 (fun h40 w9 h9 => ?_) (fun h40 v2 w9 hT2 h9 => ?_)
      · have hw : within d l (fun d l1 => (expr f d l1).andThen fun e l2 => (needS 9 l2).andThen fun _ l3 => Res.ok (e, false) l3) = .bad (hd l).pos 3 := by unfold within; rw [h40]; rfl
        exact bad_syn ((hbad _ _ hw).drop.drop.drop.drop) h9
      have hw : within d l (fun d l1 => (expr f d l1).andThen fun e l2 => (needS 9 l2).andThen fun _ l3 => Res.ok (e, false) l3) = (expr f (d + 1) (tk l)).andThen fun e l2 => (needS 9 l2).andThen fun _ l3 => Res.ok (e, false) l3 := by unfold within; rw [h40]; rfl
      rw [hw] at hno hok hbad
      have hd39 : d + 1 ≤ 40 := by
        have : d ≠ 40 := fun e => by rw [e] at h40; simp at h40
        omega
      show Tr P F.tree_parser_primary_1 [ptr b1 0, ptr b5 0] w9 _
      apply t_tree_parser_primary_1
      unfold d_tree_parser_primary_1
      rw [ldp h9]
      simp only [↓E2]
      refine (ih f (Nat.le_refl _)).expr hd39 hl.tk hT2 h9 (andThen_not_out hno) (fun n l1 hr => ?_) (fun q e hq => ?_)
      · rw [hr] at hno hok hbad
        simp only [andThen_eq_ok] at hno hok hbad
        intro g1 c v3 w10 hg1 hc hT3 hl3 h10
        simp only [↓E3]
        refine st_box (c2 := [i64 ((0 : Nat) : Int), str (hd l).text, i64 ((hd l).pos : Int), i64 ((0 : Nat) : Int), .slice none 0 0, .slice none 0 0]) h10.swap2 hc.len rfl hc.one fun w11 h11 => ?_
        have h12 := h11.swap2
        rw [ldp h12]
        refine c_need (k := 9) hl3 hT3 h12 (fun v4 w13 hn hT4 h13 => ?_) (fun w13 hn h13 => ?_)
        · rw [hn] at hok
          simp only [andThen_eq_ok] at hok
          simp only [↓E3]
          refine ⟨g1, v4, _, h13, fun w14 h14 => ?_⟩
          try simp only [↓E3]
          exact fin (hok _ _ _ rfl) hg1 hc hT4 hl3.tk h14
        · rw [hn] at hbad
          exact ((hbad _ _ rfl).drop.drop.drop.drop) g1 v3 (d + 1) w13 hg1 h13
      · rw [hq] at hbad
        intro g1 v3 d3 w10 hg1 h10
        exact ((hbad _ _ rfl).drop.drop.drop.drop) g1 v3 d3 w10 hg1 h10
    · intro hk
      rw [kd_not (l := l) (k := 8) hk] at hbad
      simp only [cond_false, syn] at hbad
      rw [ldp h8]
      refine c_bad hl hT h8 ?_
      exact bad_syn ((hbad _ _ rfl).drop.drop.drop.drop) h8

theorem CN.zero {fn : Nat} {spec : Nat → List Tok → Res Node} (h : ∀ d l, spec d l = .out) : CN fn spec := fun _ _ _ _ hno _ _ => absurd (h _ _) hno
theorem CB.zero {fn : Nat} {spec : Nat → List Tok → Res (Node × Bool)} (h : ∀ d l, spec d l = .out) : CB fn spec := fun _ _ _ _ hno _ _ => absurd (h _ _) hno

theorem allOK : ∀ f, AllOK f ∧ CBody f := by
  intro f
  induction f using Nat.strongRecOn with
  | _ f ih =>
    cases f with
    | zero =>
      refine ⟨⟨CN.zero fun _ _ => by simp [expr], CN.zero fun _ _ => by simp [casc], CN.zero fun _ _ => by simp [msg], CB.zero fun _ _ => by simp [keyed], CB.zero fun _ _ => by simp [binary], CB.zero fun _ _ => by simp [unary], CB.zero fun _ _ => by simp [prim],
        CN.zero fun _ _ => by simp [lst], CN.zero fun _ _ => by simp [elem], CN.zero fun _ _ => by simp [blk], CB.zero fun _ _ => by simp [stmt]⟩, ?_⟩
      intro p nb d k kd0 q nn t names nv v hpn l g w H R _ _ _ _ _ _ hno _ _
      simp [body] at hno
    | succ f =>
      have h1 : ∀ f' ≤ f, AllOK f' := fun f' h => (ih f' (by omega)).1
      have h2 : ∀ f' ≤ f, CBody f' := fun f' h => (ih f' (by omega)).2
      exact ⟨⟨k_expr h1, k_casc h1, k_msg h1, k_keyed h1, k_binary h1, k_unary h1, k_prim h1, k_lst h1, k_elem h1, k_blk h2, k_stmt h1⟩, k_body h1⟩
end Go.Vx
namespace Go.Vx

theorem cut_len (s : List UInt8) (i j : Nat) : (cut s i j).length ≤ s.length := by
  unfold cut
  rw [List.length_take, List.length_drop]
  omega

theorem quo_len {s : List UInt8} : ∀ {f i : Nat} {acc : List UInt8}, (quoGo f s i acc).1.1.length ≤ acc.length + (s.length - i) := by
  intro f
  induction f with
  | zero => intro i acc; simp [quoGo]
  | succ f ih =>
    intro i acc
    simp only [quoGo]
    cases hc : s[i]? with
    | none => simp
    | some c =>
      have hlt := (List.getElem?_eq_some_iff.1 hc).1
      cases h1 : (c == 39)
      · simp only [h1, cond_false]
        have := ih (i := i + 1) (acc := acc ++ [c])
        simp only [List.length_append, List.length_cons, List.length_nil] at this
        omega
      · cases h2 : (peekS s (i + 1) == 39)
        · simp only [h1, h2, cond_true, cond_false]; omega
        · simp only [h1, h2, cond_true]
          have := ih (i := i + 2) (acc := acc ++ [39])
          simp only [List.length_append, List.length_cons, List.length_nil] at this
          omega
theorem quoted_len (s : List UInt8) (i : Nat) : (quotedS s i).1.1.length ≤ s.length := by
  unfold quotedS
  cases (peekS s i == 39)
  · simp
  · simp only [cond_true]
    have := quo_len (s := s) (f := s.length + 1) (i := i + 1) (acc := [])
    simp only [List.length_nil] at this
    omega
theorem symbol_len (s : List UInt8) (i : Nat) : (symbolS s i).1.1.length ≤ s.length := by
  unfold symbolS
  cases (nameS s i).1
  · simp only [cond_false]
    cases Nat.blt i (signS s i)
    · exact quoted_len s i
    · exact cut_len _ _ _
  · exact cut_len _ _ _
theorem word_len (s : List UInt8) (i : Nat) : (wordS s i).1.1.text.length ≤ s.length := by
  unfold wordS
  simp only []
  cases letterB (peekS s i)
  · cases digitB (peekS s i)
    · cases (peekS s i == 39)
      · cases (peekS s i == 35 && peekS s (i + 1) == 40)
        · cases (peekS s i == 35)
          · cases (peekS s i == 58 && peekS s (i + 1) == 61)
            · cases (peekS s i == 58)
              · cases Nat.blt i (signS s i)
                · simp only [cond_true, cond_false]
                  cases idx (peekS s i) singleL <;> exact cut_len _ _ _
                · exact cut_len _ _ _
              · exact cut_len _ _ _
            · exact cut_len _ _ _
          · exact symbol_len _ _
        · exact cut_len _ _ _
      · exact quoted_len _ _
    · exact cut_len _ _ _
  · simp only [cond_true]
    cases colonS s (nameS s i).2 <;> exact cut_len _ _ _

theorem read_wf {s : List UInt8} (hs : s.length ≤ 4096) : ∀ {f i : Nat} {acc l : List Tok}, readGo f s i acc = .ok l → i ≤ s.length → acc.length ≤ i → (∀ t ∈ acc, t.text.length ≤ 4096) → WFL l := by
  intro f
  induction f with
  | zero => intro i acc l h; simp [readGo] at h
  | succ f ih =>
    intro i acc l h hi ha ht
    simp only [readGo] at h
    have hsk := skip_le (p := blankB) (s := s) (i := i) hi
    generalize skipS blankB s i = j at h hsk
    rcases cond_or h with ⟨h1, h2⟩ | ⟨h1, h⟩
    · injection h2 with h2
      subst h2
      refine ⟨⟨acc, _, rfl, rfl⟩, fun t hm => ?_, by simp; omega⟩
      rcases List.mem_append.1 hm with hm | hm
      · exact ht t hm
      · simp only [List.mem_singleton] at hm
        subst hm
        simp
    · have hj : j < s.length := by
        have : j ≠ s.length := fun e => by rw [e, Nat.beq_refl] at h1; simp at h1
        omega
      rcases cond_or h with ⟨h2, h3⟩ | ⟨h2, h⟩
      · cases hix : idx 34 (s.drop (j + 1)) with
        | none => rw [hix] at h3; simp at h3
        | some k =>
          rw [hix] at h3
          have hk := (idxGo_some hix).2
          rw [List.length_drop] at hk
          exact ih h3 (by omega) (by omega) ht
      · rcases cond_or h with ⟨h3, h4⟩ | ⟨h3, h4⟩
        · have hw := word_lt hj
          refine ih h4 hw.2 (by simp; omega) fun t hm => ?_
          rcases List.mem_append.1 hm with hm | hm
          · exact ht t hm
          · simp only [List.mem_singleton] at hm
            subst hm
            have := word_len s j
            omega
        · simp at h4
theorem readS_wf {s : List UInt8} {l : List Tok} (h : readS s = .ok l) : WFL l := by
  unfold readS at h
  rcases cond_or h with ⟨_, h2⟩ | ⟨h1, h2⟩
  · simp at h2
  · have hs : s.length ≤ 4096 := by
      rcases Nat.lt_or_ge 4096 s.length with h | h
      · rw [← Nat.blt_eq] at h; rw [h] at h1; simp at h1
      · exact h
    cases hr : readGo (s.length + 1) s 0 [] with
    | ok x =>
      rw [hr] at h2
      injection h2 with h2
      subst h2
      exact read_wf hs hr (by omega) (by simp) (fun t ht => by simp at ht)
    | error x => rw [hr] at h2; simp at h2
end Go.Vx
