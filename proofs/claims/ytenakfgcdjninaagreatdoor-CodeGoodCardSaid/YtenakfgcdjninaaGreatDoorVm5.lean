/- Part 5 of the walk: a calculus of conditions over the model, and contracts of the functions of the program, in their plain form. No claim stands here. -/
import Derived.Test.YtenakfgcdjninaaGreatDoorVm4
set_option linter.unusedVariables false
set_option linter.unusedSimpArgs false
set_option linter.unusedSectionVars false
set_option linter.unnecessarySimpa false
namespace Go.Vx
open Go Go.Proofs
variable {R : Ending → World → Prop} {g : G} {w : World} {H hp : Hp}

theorem Sat.pull {A : Hp} (h : Sat g w (A ++ (hp ++ H))) : Sat g w (hp ++ (A ++ H)) := h.perm (List.perm_append_comm_assoc A hp H)
theorem Sat.pull1 {A : Hp} {x : Nat × Obj} (h : Sat g w (x :: (A ++ (hp ++ H)))) : Sat g w (x :: (hp ++ (A ++ H))) := h.perm (.cons _ (List.perm_append_comm_assoc A hp H))
theorem Sat.drop1 {A : Hp} {x : Nat × Obj} (h : Sat g w (x :: (A ++ H))) : Sat g w (x :: H) := Sat.drop (A := A) (h.perm List.perm_middle.symm)

abbrev tbx (t : Tok) : Obj := .cells (tokCells t).toArray Ty.lex_Tok

theorem TS.ldHd {v : Value} {l : List Tok} (hT : TS g v l) (hl : WFL l) (hS : Sat g w H) {K : Value → World → Prop} (hk : K (tokV (hd l)) w) : ia 3 v (i64 0) (fun t w => ldn 3 t K w) w := by
  refine TS.at hT (j := 0) hS hl.hd.1 fun b o c0 c1 c2 => ?_
  refine hS.ldnI (vs := tokCells (hd l)) (fun j x hx => ?_) hk
  match j, hx with
  | 0, hx => simp [tokCells] at hx; subst hx; exact c0
  | 1, hx => simp [tokCells] at hx; subst hx; exact c1
  | 2, hx => simp [tokCells] at hx; subst hx; exact c2
  | j + 3, hx => simp [tokCells] at hx

theorem fl_tok (t : Tok) (K : Value → World → Prop) (w : World) : fl false 1 1 (tokV t) K w = K (str t.text) w := by rw [fl_eq]; rfl

/-- A block of one's own, all of which is a slice, stays. -/
theorem Sat.frz {b n sz : Nat} {ys : List Value} {e : TypeId} (h : Sat g w ((b, .cells ys.toArray e) :: H)) (hl : ys.length = n * sz) (hn : 0 < n) : ∃ g', g.le g' ∧ Sat g' w H ∧ Sl g' sz (.slice (some ⟨b, 0, none⟩) n n) n ys := by
  have h' : Sat g w ([(b, .cells (ys ++ []).toArray e)] ++ H) := by simpa using h
  exact (Grow.some (e := e) (b := b) (c := n) (ex := []) hl (by simp) (Nat.le_refl _) hn).freeze h'

theorem fill1 {c : List Value} {z : List Value} (hc : c.length = 6) (hz : z.length = 6) : fillV ((List.range (1 * z.length)).map (fun i => z.getD (i % z.length) undef)) [(0, 6, .agg c.toArray)] = some c := by
  simp only [fillV, Value.cells]
  rw [wr0 c _ (by simp [hz, hc])]
  simp [hc, hz]

theorem kd_of {l : List Tok} {k : Nat} (h : ((hd l).kind : Int) = (k : Int)) : Nat.beq (kd l) k = true := by
  have : kd l = k := by unfold kd; omega
  rw [this]; exact Nat.beq_refl _
theorem kd_not {l : List Tok} {k : Nat} (h : ¬ ((hd l).kind : Int) = (k : Int)) : Nat.beq (kd l) k = false := by
  cases hb : Nat.beq (kd l) k with
  | false => rfl
  | true => exact absurd (by have := Nat.eq_of_beq_eq_true hb; unfold kd at this; omega) h

theorem bad_syn {p d : Nat} {q e : Nat} {v : Value} (hbad : Bad g R p H q e) (hS : Sat g w ((p, prs v d) :: H)) : R (.panicked (stopE q e)) w := hbad g v d w (.refl g) hS

theorem k_msg {f : Nat} (ih : ∀ f' ≤ f, AllOK f') : CN F.tree_parser_message (msg (f + 1)) := by
  intro p d l v g w H R hd40 hl hT hS hno hok hbad
  simp only [msg] at hno hok hbad
  apply t_tree_parser_message
  unfold d_tree_parser_message
  refine hS.al fun b2 w1 h1 => ?_
  have h1 : Sat g w1 ((p, prs v d) :: (b2, box zN) :: H) := h1.swap2
  simp only [↓E1, ↓E2, ↓E3, ↓h1.ld0, Nat.reduceAdd, Nat.reduceLT]
  refine hT.ldHd hl h1 ?_
  refine h1.al fun b3 w2 h2 => ?_
  refine h2.st (c := [i64 0, str [], i64 0]) rfl (by simp) rfl fun w3 h3 => ?_
  have h3 : Sat g w3 ((b3, tbx (hd l)) :: (p, prs v d) :: (b2, box zN) :: H) := h3
  simp only [↓E1, Nat.reduceAdd]
  rw [h3.ld0 2 _ (by simp [tokCells])]
  refine bdI (cs := [i64 ((9 : Nat) : Int), str [], i64 ((hd l).pos : Int), i64 ((0 : Nat) : Int), .slice none 0 0, .slice none 0 0]) rfl ?_
  refine h3.al fun b4 w4 h4 => ?_
  refine st_box (c2 := zN) h4 rfl rfl rfl fun w5 h5 => ?_
  rw [h5.ld1 0 _ (by simp [tokCells])]
  have h6 : Sat g w5 ((p, prs v d) :: (b4, box [i64 ((9 : Nat) : Int), str [], i64 ((hd l).pos : Int), i64 ((0 : Nat) : Int), .slice none 0 0, .slice none 0 0]) :: (b3, tbx (hd l)) :: (b2, box zN) :: H) :=
    h5.perm (List.perm_middle (l₁ := [(b4, _), (b3, _)]))
  clear h1 h2 h3 h4 h5
  simp only [tokCells, ↓E1, ↓E3]
  -- at the end
  have fin : ∀ (c : List Value) (n : Node) (l' : List Tok) (g1 : G) (v1 : Value) (w6 : World) (x : Obj), OkN g R p d H n l' → g.le g1 → NodeR g1 c n → TS g1 v1 l' → WFL l' → Sat g1 w6 ((p, prs v1 d) :: (b4, box c) :: (b3, x) :: (b2, box zN) :: H) →
      ldn 6 (ptr b4 0) (fun t w => st 6 (ptr b2 0) t (fun w => ldn 6 (ptr b2 0) (fun r0 w => R (.returned r0) w) w) w) w6 := by
    intro c n l' g1 v1 w6 x hk hg1 hc hT1 hl1 h
    have h' : Sat g1 w6 ((b4, box c) :: (b2, box zN) :: (b3, x) :: (p, prs v1 d) :: H) := h.perm (by
      refine (List.Perm.swap _ _ _).trans (.cons _ ?_)
      exact (List.perm_append_comm (l₁ := [(p, prs v1 d)]) (l₂ := [(b3, x), (b2, box zN)])).append_right H |>.trans (List.Perm.swap _ _ _))
    refine ret_box h' hc.len rfl hc.one fun w7 h7 => ?_
    exact hk g1 c v1 w7 hg1 hc hT1 hl1 h7.tail
  rw [cnd_dec]
  constructor
  · intro hk
    have hb := kd_of (k := 1) hk
    rw [hb] at hok
    simp only [cond_true] at hok
    refine c_take hl hT h6 fun v' w6 hT' h7 => ?_
    simp only [↓E3, fl_tok]
    refine h7.swap2.st rfl (by simp) rfl fun w8 h8 => ?_
    have h8 : Sat g w8 ((b4, box [i64 ((9 : Nat) : Int), str (hd l).text, i64 ((hd l).pos : Int), i64 ((0 : Nat) : Int), .slice none 0 0, .slice none 0 0]) :: (p, prs v' d) :: (b3, tbx (hd l)) :: (b2, box zN) :: H) := h8
    exact fin _ _ _ g v' w8 _ (hok _ _ rfl) (.refl g) (nodeR_leaf g 9 _ _) hT' hl.tk h8.swap2
  intro hk1
  have hb1 := kd_not (k := 1) hk1
  rw [hb1] at hno hok hbad
  simp only [cond_false] at hno hok hbad
  rw [cnd_dec]
  constructor
  · intro hk
    have hb := kd_of (k := 3) hk
    rw [hb] at hno hok hbad
    simp only [cond_true] at hno hok hbad
    refine c_take hl hT h6 fun v' w6 hT' h7 => ?_
    simp only [↓E3, fl_tok]
    refine h7.swap2.st rfl (by simp) rfl fun w8 h8 => ?_
    have h8 : Sat g w8 ((p, prs v' d) :: (b4, box [i64 ((9 : Nat) : Int), str (hd l).text, i64 ((hd l).pos : Int), i64 ((0 : Nat) : Int), .slice none 0 0, .slice none 0 0]) :: (b3, tbx (hd l)) :: (b2, box zN) :: H) := Sat.swap2 h8
    refine (ih f (Nat.le_refl _)).unary hd40 hl.tk hT' h8 (andThen_not_out hno) (fun n b l1 hr => ?_) (fun q e hq => ?_)
    · rw [hr] at hok
      simp only [andThen_eq_ok] at hok
      intro g1 c v1 w9 hg1 hc hT1 hl1 h9
      simp only [↓E2, ↓E3]
      refine h9.al fun b5 w10 h10 => ?_
      refine st_box (c2 := zN) h10 hc.len rfl hc.one fun w11 h11 => ?_
      refine h11.ldn0 (c := c) hc.len.symm ?_
      refine h11.bs (fill1 (z := zN) hc.len rfl) fun b6 w12 h12 => ?_
      obtain ⟨g2, hg2, h13, hsl⟩ := Sat.frz (n := 1) (sz := 6) h12 (by simp [hc.len]) (by omega)
      refine h13.tail.swap2.st rfl (by simp) rfl fun w14 h14 => ?_
      have h14 : Sat g2 w14 ((b4, box [i64 ((9 : Nat) : Int), str (hd l).text, i64 ((hd l).pos : Int), i64 ((0 : Nat) : Int), .slice none 0 0, .slice (some ⟨b6, 0, none⟩) 1 1]) :: (p, prs v1 d) :: (b3, tbx (hd l)) :: (b2, box zN) :: H) := h14
      refine fin _ _ _ g2 v1 w14 _ (hok _ _ rfl) (hg1.trans hg2) ?_ (hT1.mono hg2) hl1 h14.swap2
      have hkr := KR.nil.cons (hc.mono hg2)
      exact .mk (kcs := [c]) (Sl.nil g2 1) (by simpa using hsl) hkr.1 hkr.2
    · rw [hq] at hbad
      exact (hbad _ _ rfl).drop.drop.drop
  intro hk3
  have hb3 := kd_not (k := 3) hk3
  rw [hb3] at hno hok hbad
  simp only [cond_false] at hno hok hbad
  rw [cnd_dec]
  constructor
  · intro hk
    have hb := kd_of (k := 2) hk
    rw [hb] at hno hok hbad
    simp only [cond_true] at hno hok hbad
    have hl97 := hl.len
    refine lp0 (fun m w => ∃ g1 l1 v1 text kids kcs kv hp f1, g.le g1 ∧ TS g1 v1 l1 ∧ WFL l1 ∧ m = l1.length ∧ f1 ≤ f ∧ text.length + 4096 * l1.length ≤ 20000000 ∧ kids.length + l1.length ≤ 5000 ∧ KR g1 kcs kids ∧ Grow 50 6 kv kids.length kcs.flatten hp ∧
      msgL f1 d (hd l).pos text kids l1 ≠ .out ∧ (∀ n l', msgL f1 d (hd l).pos text kids l1 = .ok n l' → OkN g R p d H n l') ∧ (∀ q e, msgL f1 d (hd l).pos text kids l1 = .bad q e → Bad g R p H q e) ∧
      Sat g1 w ((p, prs v1 d) :: (b4, box [i64 ((9 : Nat) : Int), str text, i64 ((hd l).pos : Int), i64 ((0 : Nat) : Int), .slice none 0 0, kv]) :: (b3, tbx (hd l)) :: (b2, box zN) :: (hp ++ H))) rfl l.length
      ⟨g, l, v, [], [], [], _, [], f, .refl g, hT, hl, rfl, Nat.le_refl _, by simp; omega, by simp; omega, .nil, .nil, hno, hok, hbad, h6⟩ ?_
    rintro m w6 ⟨g1, l1, v1, text, kids, kcs, kv, hp, f1, hg1, hT1, hl1, rfl, hf1, htx, hks, hkr, hgr, hno, hok, hbad, h7⟩
    obtain ⟨f2, rfl⟩ : ∃ f2, f1 = f2 + 1 := by
      cases f1 with
      | zero => simp [msgL] at hno
      | succ f2 => exact ⟨f2, rfl⟩
    simp only [msgL] at hno hok hbad
    simp only [↓E2]
    refine c_kind hl1 hT1 h7 ?_
    simp only [↓E1, ↓E2, ↓E3]
    rw [cnd_dec]
    constructor
    · intro hk
      have hb := kd_of (k := 2) hk
      rw [hb] at hno hok hbad
      simp only [cond_true] at hno hok hbad
      have h8 := h7.drew
      simp only [↓h8.ld1, ↓E3, Nat.reduceAdd, Nat.reduceLT]
      refine c_take hl1 hT1 h8 fun v2 w9 hT2 h9 => ?_
      simp only [↓E3, fl_tok, bS_add]
      refine h9.rk (b := b4) (t := 50) (fr := (0, 0)) (c := [i64 ((9 : Nat) : Int), str text, i64 ((hd l).pos : Int), i64 ((0 : Nat) : Int), .slice none 0 0, kv]) (by simp) rfl ?_
      have htl := hl1.hd.2
      have hlt := tk_lt hb (by decide)
      refine ⟨by omega, ?_⟩
      have hone : one kv = true := by rcases hgr.inv with ⟨rfl, _⟩ | ⟨_, _, _, rfl, _⟩ <;> rfl
      refine h9.swap2.st rfl (by simp) rfl fun w10 h10 => ?_
      have h10 : Sat g1 w10 ((p, prs v2 d) :: (b4, box [i64 ((9 : Nat) : Int), str (text ++ (hd l1).text), i64 ((hd l).pos : Int), i64 ((0 : Nat) : Int), .slice none 0 0, kv]) :: (b3, tbx (hd l)) :: (b2, box zN) :: (hp ++ H)) := Sat.swap2 h10
      refine (ih f2 (by omega)).binary hd40 hl1.tk hT2 h10 (andThen_not_out hno) (fun n b l2 hr => ?_) (fun q e hq => ?_)
      · rw [hr] at hno hok hbad
        simp only [andThen_eq_ok] at hno hok hbad
        intro g2 c v3 w11 hg2 hc hT3 hl3 h11
        have hlt2 := ((prog f2).binary hr).1
        simp only [↓E2, ↓E3]
        refine h11.al fun b7 w12 h12 => ?_
        refine st_box (c2 := zN) h12 hc.len rfl hc.one fun w13 h13 => ?_
        rw [h13.ld2 5 _ (by simp)]
        simp only [↓E3]
        refine h13.ldn0 (c := c) hc.len.symm ?_
        refine h13.bs (fill1 (z := zN) hc.len rfl) fun b6 w14 h14 => ?_
        have h15 : Sat g2 w14 ((b6, .cells c.toArray 50) :: (hp ++ ((p, prs v3 d) :: (b4, box [i64 ((9 : Nat) : Int), str (text ++ (hd l1).text), i64 ((hd l).pos : Int), i64 ((0 : Nat) : Int), .slice none 0 0, kv]) :: (b3, tbx (hd l)) :: (b2, box zN) :: H))) := by
          exact Sat.pull1 (A := [(p, _), (b4, _), (b3, _), (b2, _)]) (h14.swap2.tail)
        refine Sat.ap1 (m := 1) (c := 1) h15 hgr rfl (by simp [hc.len]) hc.one (by omega) (by omega) fun kv' hp2 w16 hg16 h16 => ?_
        have h17 : Sat g2 w16 ((b4, box [i64 ((9 : Nat) : Int), str (text ++ (hd l1).text), i64 ((hd l).pos : Int), i64 ((0 : Nat) : Int), .slice none 0 0, kv]) :: (p, prs v3 d) :: (b3, tbx (hd l)) :: (b2, box zN) :: (hp2 ++ H)) := by
          exact Sat.swap2 (Sat.pull (A := hp2) (hp := [(p, _), (b4, _), (b3, _), (b2, _)]) h16)
        have hone' : one kv' = true := by rcases hg16.inv with ⟨rfl, _⟩ | ⟨_, _, _, rfl, _⟩ <;> rfl
        refine h17.st (by rcases hg16.inv with ⟨rfl, _⟩ | ⟨_, _, _, rfl, _⟩ <;> rfl) (by simp) (by rcases hg16.inv with ⟨rfl, _⟩ | ⟨_, _, _, rfl, _⟩ <;> rfl) fun w18 h18 => ?_
        have e : wr [i64 ((9 : Nat) : Int), str (text ++ (hd l1).text), i64 ((hd l).pos : Int), i64 ((0 : Nat) : Int), .slice none 0 0, kv].toArray 5 kv'.cells.toList = [i64 ((9 : Nat) : Int), str (text ++ (hd l1).text), i64 ((hd l).pos : Int), i64 ((0 : Nat) : Int), .slice none 0 0, kv'].toArray := by
          rcases hg16.inv with ⟨rfl, _⟩ | ⟨_, _, _, rfl, _⟩ <;> rfl
        rw [e] at h18
        refine ⟨l2.length, by omega, trivial, g2, l2, v3, text ++ (hd l1).text, kids ++ [n], kcs ++ [c], kv', hp2, f2, hg1.trans hg2, hT3, hl3, rfl, by omega, ?_, ?_, (hkr.mono hg2).snoc hc, ?_, hno, hok, hbad, h18.swap2⟩
        · simp only [List.length_append]; omega
        · simp only [List.length_append, List.length_cons, List.length_nil]; omega
        · simpa using hg16
      · rw [hq] at hbad
        have hb0 := ((hbad _ _ rfl).mono hg1)
        intro g2 v3 d3 w11 hg2 h11
        exact hb0 g2 v3 d3 w11 hg2 (Sat.drop1 (A := (b4, _) :: (b3, _) :: (b2, _) :: hp) h11)
    · intro hk
      have hb := kd_not (k := 2) hk
      rw [hb] at hok
      simp only [cond_false] at hok
      have h8 : Sat g1 w6 (hp ++ ((p, prs v1 d) :: (b4, box [i64 ((9 : Nat) : Int), str text, i64 ((hd l).pos : Int), i64 ((0 : Nat) : Int), .slice none 0 0, kv]) :: (b3, tbx (hd l)) :: (b2, box zN) :: H)) := by
        exact Sat.pull (A := [(p, _), (b4, _), (b3, _), (b2, _)]) h7
      obtain ⟨g2, hg2, h9, hsl⟩ := hgr.freeze h8
      have hkr2 := hkr.mono hg2
      exact fin _ _ _ g2 v1 w6 _ (hok _ _ rfl) (hg1.trans hg2) (.mk (Sl.nil g2 1) hsl hkr2.1 hkr2.2) (hT1.mono hg2) hl1 h9
  · intro hk2
    have hb2 := kd_not (k := 2) hk2
    rw [hb2] at hbad
    simp only [cond_false, syn] at hbad
    refine c_bad hl hT h6 ?_
    exact hbad _ _ rfl g v d w5 (.refl g) (Sat.tail (Sat.swap2 (Sat.tail (Sat.swap2 (Sat.tail (Sat.swap2 h6))))))
end Go.Vx
namespace Go.Vx
open Go Go.Proofs
variable {R : Ending → World → Prop} {g : G} {w : World} {H hp : Hp}

theorem Sat.del {A B : Hp} {x : Nat × Obj} (h : Sat g w (A ++ x :: B)) : Sat g w (A ++ B) := (h.perm List.perm_middle).tail

theorem Sat.rkA (h : Sat g w H) {b : Nat} {c : List Value} {t : TypeId} {fr : Nat × Nat} (hb : (b, .cells c.toArray t fr) ∈ H) {p : Prop} (hp : p) : Vx.rk true (ptr b 0) (.agg c.toArray) p w :=
  ⟨⟨_, _, rfl, rfl, fun j v hv => by rw [add_plain, Nat.zero_add]; exact h.cellH hb (by simpa using hv)⟩, hp⟩
theorem Sat.rkAI (h : Sat g w H) {b o : Nat} {c : List Value} (hc : ∀ j x, c[j]? = some x → g.cell? b (o + j) = some x) {p : Prop} (hp : p) : Vx.rk true (ptr b o) (.agg c.toArray) p w :=
  ⟨⟨_, _, rfl, rfl, fun j v hv => by rw [add_plain]; exact h.cellI (hc j v (by simpa using hv))⟩, hp⟩

theorem Sl.head6 {kv : Value} {kcs : List (List Value)} {k : Node} {ks : List Node} {c : List Value} (h : Sl g 6 kv (k :: ks).length (c :: kcs).flatten) (hc : c.length = 6) (hS : Sat g w H) {K : Value → World → Prop}
    (hk : ∀ b o, (∀ q x, c[q]? = some x → g.cell? b (o + q) = some x) → K (ptr b o) w) : ia 6 kv (i64 0) K w := by
  refine Sl.at h hS (j := 0) (by simp) (by decide) fun b o hq => hk b o fun q x hx => ?_
  refine hq q x ?_
  have : q < 6 := by
    have := (List.getElem?_eq_some_iff.1 hx).1
    omega
  simp only [Nat.zero_mul, List.drop_zero, List.flatten_cons]
  rw [List.getElem?_take, if_pos this, List.getElem?_append_left (by omega)]
  exact hx

theorem fill2 {c c' : List Value} (hc : c.length = 6) (hc' : c'.length = 6) : fillV ((List.range (2 * zN.length)).map (fun i => zN.getD (i % zN.length) undef)) [(0, 6, .agg c.toArray), (6, 6, .agg c'.toArray)] = some (c ++ c') := by
  have hX : ((List.range (2 * zN.length)).map (fun i => zN.getD (i % zN.length) undef)).length = 12 := by simp [zN]
  generalize (List.range (2 * zN.length)).map (fun i => zN.getD (i % zN.length) undef) = X at hX
  have e1 : wr X.toArray 0 (Value.agg c.toArray).cells.toList = (c ++ X.drop 6).toArray := by have := wr0 c X (by omega); rw [hc] at this; exact this
  have e2 : wr (c ++ X.drop 6).toArray 6 (Value.agg c'.toArray).cells.toList = (c ++ c').toArray := by
    have := wr_app c' c (X.drop 6) (by rw [List.length_drop]; omega)
    have hd : (X.drop 6).drop c'.length = [] := by rw [List.drop_drop, hc']; exact List.drop_eq_nil_of_le (by omega)
    rw [hc, hd, List.append_nil] at this
    exact this
  have s1 : (Nat.beq (Value.agg c.toArray).cells.size 6 && Nat.ble (0 + 6) X.length) = true := by simp [Value.cells, hc, hX]
  have s2 : (Nat.beq (Value.agg c'.toArray).cells.size 6 && Nat.ble (6 + 6) (c ++ X.drop 6).length) = true := by simp [Value.cells, hc, hc', hX]
  simp only [fillV, s1, e1, s2, e2]

theorem casc_plain {f d : Nat} {l l1 : List Tok} {n : Node} {b : Bool} (h : keyed f d l = .ok (n, b) l1) (hk : n.kind = 7) : n.kids ≠ [] := ((prog f).keyed h).2 hk

theorem k_casc {f : Nat} (ih : ∀ f' ≤ f, AllOK f') : CN F.tree_parser_cascade (casc (f + 1)) := by
  intro p d l v g w H R hd40 hl hT hS hno hok hbad
  simp only [casc] at hno hok hbad
  apply t_tree_parser_cascade
  unfold d_tree_parser_cascade
  refine hS.al fun b2 w1 h1 => ?_
  have h1 : Sat g w1 ((p, prs v d) :: (b2, box zN) :: H) := h1.swap2
  simp only [↓E2]
  refine (ih f (Nat.le_refl _)).keyed hd40 hl hT h1 (andThen_not_out hno) (fun n b l1 hr => ?_) (fun q e hq => ?_)
  rotate_left
  · rw [hq] at hbad
    exact (hbad _ _ rfl).drop
  have hsend := casc_plain hr
  have hlt := ((prog f).keyed hr).1
  rw [hr] at hno hok hbad
  simp only [andThen_eq_ok] at hno hok hbad
  intro g1 c v1 w2 hg1 hc hT1 hl1 h2
  simp only [↓E2, ↓E3]
  refine h2.al fun b3 w3 h3 => ?_
  refine st_box (c2 := zN) h3 hc.len rfl hc.one fun w4 h4 => ?_
  have h4 : Sat g1 w4 ((p, prs v1 d) :: (b3, box c) :: (b2, box zN) :: H) := h4.swap2
  refine c_kind hl1 hT1 h4 ?_
  simp only [↓E1, ↓E2, ↓E3]
  rw [cnd_ndec]
  constructor
  · intro hk
    have hb := kd_not (l := l1) (k := 15) hk
    rw [hb] at hok
    simp only [cond_false] at hok
    have h5 : Sat g1 w4 ((b3, box c) :: (b2, box zN) :: (p, prs v1 d) :: H) := h4.perm (List.perm_middle (l₁ := [(b3, _), (b2, _)])).symm
    refine ret_box h5 hc.len rfl hc.one fun w6 h6 => ?_
    exact hok _ _ rfl g1 c v1 w6 hg1 hc hT1 hl1 h6
  intro hk
  have hb := kd_of (l := l1) (k := 15) hk
  rw [hb] at hno hok hbad
  simp only [cond_true] at hno hok hbad
  cases hc with
  | @mk kd0 q nn t ns ks nv kv kcs s1 s2 s3 s4 =>
  have hN : NodeR g1 [i64 (kd0 : Int), str t, i64 (q : Int), i64 (nn : Int), nv, kv] (.mk kd0 t q nn ns ks) := .mk s1 s2 s3 s4
  refine jn0 (fun w => (Nat.beq kd0 7 && b) = true ∧ Sat g1 w ((p, prs v1 d) :: (b3, box [i64 (kd0 : Int), str t, i64 (q : Int), i64 (nn : Int), nv, kv]) :: (b2, box zN) :: H)) ?_ ?_
  · rintro w5 ⟨hkd, h5⟩
    have e : (Nat.beq (Node.mk kd0 t q nn ns ks).kind 7 && b) = true := hkd
    rw [e] at hno hok hbad
    simp only [cond_true] at hno hok hbad
    rw [Bool.and_eq_true] at hkd
    have hks : ks ≠ [] := hsend (Nat.eq_of_beq_eq_true hkd.1)
    cases ks with
    | nil => exact absurd rfl hks
    | cons k0 ks =>
    cases kcs with
    | nil => simp at s3
    | cons c0 kcs =>
    have hc0 : NodeR g1 c0 k0 := s4 0 c0 k0 rfl rfl
    have hkr : KR g1 kcs ks := ⟨by simpa using s3, fun i c k h1 h2 => s4 (i + 1) c k (by simpa using h1) (by simpa using h2)⟩
    have h6 := h5.drew
    simp only [↓E1, ↓E2, ↓E3, ↓h6.ld1, Nat.reduceAdd, Nat.reduceLT]
    obtain ⟨a, cp, rfl, hcap, hlen, hcells⟩ := id s2
    refine slL_lo 6 a _ cp _ 1 (by omega) (by simp; omega) hcap ?_
    have hfr := Sl.from1 s2 (by simp) (by decide)
    generalize hsv : Value.slice (if (cp : Int) = 1 then a else a.map (·.add ((1 : Int).toNat * 6))) ((k0 :: ks).length - (1 : Int).toNat) (cp - (1 : Int).toNat) = sv at hfr ⊢
    have hfr' : Sl g1 6 sv ks.length kcs.flatten := by
      have e2 : ((c0 :: kcs).flatten).drop 6 = kcs.flatten := by
        rw [List.flatten_cons, List.drop_append_of_le_length (by rw [hc0.len]; exact Nat.le_refl _), List.drop_eq_nil_of_le (by rw [hc0.len]; exact Nat.le_refl _)]
        rfl
      rw [e2] at hfr
      simpa using hfr
    have hF : NodeR g1 [i64 ((9 : Nat) : Int), str t, i64 (q : Int), i64 ((0 : Nat) : Int), .slice none 0 0, sv] (.mk 9 t q 0 [] ks) := .mk (Sl.nil g1 1) hfr' hkr.1 hkr.2
    refine bdI (cs := [i64 ((9 : Nat) : Int), str t, i64 (q : Int), i64 ((0 : Nat) : Int), .slice none 0 0, sv]) (by rw [← hsv]; rfl) ?_
    refine h6.al fun b5 w7 h7 => ?_
    refine h7.rk (b := b3) (t := 50) (fr := (0, 0)) (c := [i64 (kd0 : Int), str t, i64 (q : Int), i64 (nn : Int), nv, .slice a (k0 :: ks).length cp]) (by simp) rfl ?_
    refine h7.rk (b := b3) (t := 50) (fr := (0, 0)) (c := [i64 (kd0 : Int), str t, i64 (q : Int), i64 (nn : Int), nv, .slice a (k0 :: ks).length cp]) (by simp) rfl ?_
    refine h7.rk (b := b3) (t := 50) (fr := (0, 0)) (c := [i64 (kd0 : Int), str t, i64 (q : Int), i64 (nn : Int), nv, .slice a (k0 :: ks).length cp]) (by simp) rfl ?_
    refine st_box (c2 := zN) h7 rfl rfl hF.one fun w8 h8 => ?_
    have h9 := h8.drew
    simp only [↓h9.ld2, ↓E3, Nat.reduceAdd, Nat.reduceLT]
    have hl97 := hl.len
    have hk2 : KR g1 [c0, [i64 ((9 : Nat) : Int), str t, i64 (q : Int), i64 ((0 : Nat) : Int), .slice none 0 0, sv]] [k0, .mk 9 t q 0 [] ks] := (KR.nil.cons hF).cons hc0
    constructor
    case' left =>
      refine s2.head6 hc0.len h9 fun bb oo hcell => ?_
      rw [show (6 : Nat) = c0.length from hc0.len.symm]
      refine h9.ldnI (vs := c0) hcell ?_
      rw [hc0.len]
      refine h9.ldn0 (c := [i64 ((9 : Nat) : Int), str t, i64 (q : Int), i64 ((0 : Nat) : Int), .slice none 0 0, sv]) rfl ?_
      refine h9.bs (fill2 hc0.len rfl) fun b7 w10 h10 => ?_
      refine h10.rk (b := b3) (t := 50) (fr := (0, 0)) (c := [i64 (kd0 : Int), str t, i64 (q : Int), i64 (nn : Int), nv, .slice a (k0 :: ks).length cp]) (by simp) rfl ?_
      refine bdI (cs := [i64 ((8 : Nat) : Int), str [], i64 (q : Int), i64 ((0 : Nat) : Int), .slice none 0 0, .slice (some ⟨b7, 0, none⟩) 2 2]) rfl ?_
      refine h10.al fun b6 w11 h11 => ?_
      refine h11.rk (b := b3) (t := 50) (fr := (0, 0)) (c := [i64 (kd0 : Int), str t, i64 (q : Int), i64 (nn : Int), nv, .slice a (k0 :: ks).length cp]) (by simp) rfl ?_
      refine st_box (c2 := zN) h11 rfl rfl rfl fun w20 h20 => ?_
    case' right =>
      refine s2.head6 hc0.len h9 fun bb oo hcell => ?_
      rw [show (6 : Nat) = c0.length from hc0.len.symm]
      refine h9.ldnI (vs := c0) hcell ?_
      rw [hc0.len]
      refine h9.ldn0 (c := [i64 ((9 : Nat) : Int), str t, i64 (q : Int), i64 ((0 : Nat) : Int), .slice none 0 0, sv]) rfl ?_
      refine h9.al fun b6 w10 h10 => ?_
      refine h10.rkA (b := b5) (t := 50) (fr := (0, 0)) (c := [i64 ((9 : Nat) : Int), str t, i64 (q : Int), i64 ((0 : Nat) : Int), .slice none 0 0, sv]) (by simp) ?_
      refine h10.rkAI (c := c0) hcell ?_
      refine h10.rk (b := b3) (t := 50) (fr := (0, 0)) (c := [i64 (kd0 : Int), str t, i64 (q : Int), i64 (nn : Int), nv, .slice a (k0 :: ks).length cp]) (by simp) rfl ?_
      refine h10.rk (b := b3) (t := 50) (fr := (0, 0)) (c := [i64 (kd0 : Int), str t, i64 (q : Int), i64 (nn : Int), nv, .slice a (k0 :: ks).length cp]) (by simp) rfl ?_
      refine h10.bs (fill2 hc0.len rfl) fun b7 w11 h11 => ?_
      refine h11.rk (b := b3) (t := 50) (fr := (0, 0)) (c := [i64 (kd0 : Int), str t, i64 (q : Int), i64 (nn : Int), nv, .slice a (k0 :: ks).length cp]) (by simp) rfl ?_
      refine bdI (cs := [i64 ((8 : Nat) : Int), str [], i64 (q : Int), i64 ((0 : Nat) : Int), .slice none 0 0, .slice (some ⟨b7, 0, none⟩) 2 2]) rfl ?_
      refine st_box (c2 := zN) h11.swap2 rfl rfl rfl fun w20 h20 => ?_
    all_goals
      have h21 := Sat.del (A := [(b6, _), (b7, _)]) h20
      have h22 := Sat.del (A := [(b6, _), (b7, _), (p, _)]) h21
      have h23 : Sat g1 w20 ((p, prs v1 d) :: (b6, box [i64 ((8 : Nat) : Int), str [], i64 (q : Int), i64 ((0 : Nat) : Int), .slice none 0 0, .slice (some ⟨b7, 0, none⟩) 2 2]) :: ([(b7, .cells ((c0 ++ [i64 ((9 : Nat) : Int), str t, i64 (q : Int), i64 ((0 : Nat) : Int), .slice none 0 0, sv]) ++ []).toArray 50)] ++ ((b2, box zN) :: H))) := by
        have := h22.perm (List.perm_middle (l₁ := [(b6, _), (b7, _)]))
        simpa using this
      have hgr0 : Grow 50 6 (.slice (some ⟨b7, 0, none⟩) 2 2) [k0, Node.mk 9 t q 0 [] ks].length ([c0, [i64 ((9 : Nat) : Int), str t, i64 (q : Int), i64 ((0 : Nat) : Int), .slice none 0 0, sv]] : List (List Value)).flatten [(b7, .cells ((c0 ++ [i64 ((9 : Nat) : Int), str t, i64 (q : Int), i64 ((0 : Nat) : Int), .slice none 0 0, sv]) ++ []).toArray 50)] := by
        have e3 : ([c0, [i64 ((9 : Nat) : Int), str t, i64 (q : Int), i64 ((0 : Nat) : Int), .slice none 0 0, sv]] : List (List Value)).flatten = c0 ++ [i64 ((9 : Nat) : Int), str t, i64 (q : Int), i64 ((0 : Nat) : Int), .slice none 0 0, sv] := by simp
        rw [e3]
        exact .some (by simp [hc0.len]) (by simp) (by simp) (by omega)
      refine lp0 (fun m w => ∃ g2 l2 v2 kids kcs kv hp f1, g1.le g2 ∧ TS g2 v2 l2 ∧ WFL l2 ∧ m = l2.length ∧ f1 ≤ f ∧ kids.length + l2.length ≤ 5000 ∧ KR g2 kcs kids ∧ Grow 50 6 kv kids.length kcs.flatten hp ∧
        cascL f1 d q kids l2 ≠ .out ∧ (∀ n l', cascL f1 d q kids l2 = .ok n l' → OkN g R p d H n l') ∧ (∀ q' e, cascL f1 d q kids l2 = .bad q' e → Bad g R p H q' e) ∧
        Sat g2 w ((p, prs v2 d) :: (b6, box [i64 ((8 : Nat) : Int), str [], i64 (q : Int), i64 ((0 : Nat) : Int), .slice none 0 0, kv]) :: (hp ++ ((b2, box zN) :: H)))) rfl l1.length
        ⟨g1, l1, v1, _, _, _, _, f, .refl g1, hT1, hl1, rfl, Nat.le_refl _, by simp; omega, hk2, hgr0, hno, hok, hbad, h23⟩ ?_
      rintro m w21 ⟨g2, l2, v2, kids, kcs2, kv, hp, f1, hg2, hT2, hl2, rfl, hf1, hks2, hkr2, hgr, hno, hok, hbad, h24⟩
      obtain ⟨f2, rfl⟩ : ∃ f2, f1 = f2 + 1 := by
        cases f1 with
        | zero => simp [cascL] at hno
        | succ f2 => exact ⟨f2, rfl⟩
      simp only [cascL] at hno hok hbad
      refine c_kind hl2 hT2 h24 ?_
      simp only [↓E1, ↓E2, ↓E3]
      rw [cnd_dec]
      constructor
      · intro hk
        have hb := kd_of (l := l2) (k := 15) hk
        rw [hb] at hno hok hbad
        simp only [cond_true] at hno hok hbad
        refine c_take hl2 hT2 h24 fun v3 w25 hT3 h25 => ?_
        have h26 := h25.drew
        simp only [↓h26.ld1, ↓E3, Nat.reduceAdd, Nat.reduceLT]
        have hlt3 := tk_lt hb (by decide)
        refine (ih f2 (by omega)).msg hd40 hl2.tk hT3 h26 (andThen_not_out hno) (fun n l3 hr3 => ?_) (fun q' e hq' => ?_)
        · rw [hr3] at hno hok hbad
          simp only [andThen_eq_ok] at hno hok hbad
          intro g3 c v4 w27 hg3 hc hT4 hl4 h27
          have hlt4 := (prog f2).msg hr3
          simp only [↓E3]
          refine h27.rk (b := b6) (t := 50) (fr := (0, 0)) (c := [i64 ((8 : Nat) : Int), str [], i64 (q : Int), i64 ((0 : Nat) : Int), .slice none 0 0, kv]) (by simp) rfl ?_
          refine h27.bs (fill1 (z := zN) hc.len rfl) fun b8 w28 h28 => ?_
          refine h28.rk (b := b6) (t := 50) (fr := (0, 0)) (c := [i64 ((8 : Nat) : Int), str [], i64 (q : Int), i64 ((0 : Nat) : Int), .slice none 0 0, kv]) (by simp) rfl ?_
          have h29 := Sat.pull1 (A := [(p, _), (b6, _)]) h28
          refine Sat.ap1 (m := 1) (c := 1) h29 hgr rfl (by simp [hc.len]) hc.one (by omega) (by omega) fun kv' hp2 w30 hg30 h30 => ?_
          have h31 := Sat.swap2 (Sat.pull (A := hp2) (hp := [(p, _), (b6, _)]) h30)
          refine Sat.st h31 (by rcases hg30.inv with ⟨rfl, _⟩ | ⟨_, _, _, rfl, _⟩ <;> rfl) (by simp) (by rcases hg30.inv with ⟨rfl, _⟩ | ⟨_, _, _, rfl, _⟩ <;> rfl) fun w32 h32 => ?_
          have e : wr [i64 ((8 : Nat) : Int), str [], i64 (q : Int), i64 ((0 : Nat) : Int), .slice none 0 0, kv].toArray 5 kv'.cells.toList = [i64 ((8 : Nat) : Int), str [], i64 (q : Int), i64 ((0 : Nat) : Int), .slice none 0 0, kv'].toArray := by
            rcases hg30.inv with ⟨rfl, _⟩ | ⟨_, _, _, rfl, _⟩ <;> rfl
          rw [e] at h32
          refine ⟨l3.length, by omega, trivial, g3, l3, v4, kids ++ [n], kcs2 ++ [c], kv', hp2, f2, hg2.trans hg3, hT4, hl4, rfl, by omega, ?_, (hkr2.mono hg3).snoc hc, ?_, hno, hok, hbad, h32.swap2⟩
          · simp only [List.length_append, List.length_cons, List.length_nil]; omega
          · simpa using hg30
        · rw [hq'] at hbad
          have hb0 := ((hbad _ _ rfl).mono (hg1.trans hg2))
          intro g3 v3 d3 w27 hg3 h27
          exact hb0 g3 v3 d3 w27 hg3 (Sat.drop1 (A := [(b2, _)]) (Sat.drop1 (A := (b6, _) :: hp) h27))
      · intro hk
        have hb := kd_not (l := l2) (k := 15) hk
        rw [hb] at hok
        simp only [cond_false] at hok
        have h25 := Sat.pull (A := [(p, _), (b6, _)]) h24
        obtain ⟨g3, hg3, h26, hsl⟩ := hgr.freeze h25
        have hkr3 := hkr2.mono hg3
        have hN3 : NodeR g3 [i64 ((8 : Nat) : Int), str [], i64 (q : Int), i64 ((0 : Nat) : Int), .slice none 0 0, kv] (.mk 8 [] q 0 [] kids) := .mk (Sl.nil g3 1) hsl hkr3.1 hkr3.2
        have h27 : Sat g3 w21 ((b6, box [i64 ((8 : Nat) : Int), str [], i64 (q : Int), i64 ((0 : Nat) : Int), .slice none 0 0, kv]) :: (b2, box zN) :: (p, prs v2 d) :: H) := Sat.perm h26 (List.perm_middle (l₁ := [(b6, _), (b2, _)])).symm
        refine ret_box h27 rfl rfl hN3.one fun w28 h28 => ?_
        exact hok _ _ rfl g3 _ v2 w28 (hg1.trans (hg2.trans hg3)) hN3 (hT2.mono hg3) hl2 h28
  · intro k1 hk1
    have hbd : (Nat.beq kd0 7 && b) = false → R (.panicked (stopE (hd l1).pos 20)) w4 := by
      intro h
      have e : (Nat.beq (Node.mk kd0 t q nn ns ks).kind 7 && b) = false := h
      rw [e] at hbad
      simp only [cond_false, syn] at hbad
      exact hbad _ _ rfl g1 v1 d w4 hg1 (Sat.drop1 (A := [(b3, _), (b2, _)]) h4)
    simp only [↓E1, ↓E2, ↓E3, ↓h4.ld1, Nat.reduceAdd, Nat.reduceLT]
    rw [cnd_ndec]
    constructor
    · intro hne
      refine c_bad hl1 hT1 h4 (hbd ?_)
      have : Nat.beq kd0 7 = false := by
        cases hb : Nat.beq kd0 7 with
        | false => rfl
        | true => exact absurd (by have := Nat.eq_of_beq_eq_true hb; omega) hne
      rw [this]; rfl
    · intro he
      have h7 : Nat.beq kd0 7 = true := by
        have : kd0 = 7 := by omega
        rw [this]; rfl
      rw [cnd_eq]
      constructor
      · intro hb
        have hb' : b = false := by simpa using hb
        exact c_bad hl1 hT1 h4 (hbd (by rw [h7, hb']; rfl))
      · intro hb
        have hb' : b = true := by simpa using hb
        exact hk1 _ ⟨by rw [h7, hb']; rfl, h4⟩
end Go.Vx
namespace Go.Vx
open Go Go.Proofs
variable {R : Ending → World → Prop} {g : G} {w : World} {H hp : Hp}

abbrev pbx (p : Nat) : Obj := .cells [ptr p 0].toArray Ty.p_tree_parser
theorem fl_pos (t : Tok) (K : Value → World → Prop) (w : World) : fl false 1 2 (tokV t) K w = K (i64 (t.pos : Int)) w := by rw [fl_eq]; rfl

theorem k_stmt {f : Nat} (ih : ∀ f' ≤ f, AllOK f') : CB F.tree_parser_statement (stmt (f + 1)) := by
  intro p d l v g w H R hd40 hl hT hS hno hok hbad
  simp only [stmt] at hno hok hbad
  apply t_tree_parser_statement
  unfold d_tree_parser_statement
  refine hS.al fun b2 w1 h1 => ?_
  have h1 : Sat g w1 ((p, prs v d) :: (b2, box zN) :: H) := h1.swap2
  simp only [↓E2]
  refine c_kind hl hT h1 ?_
  simp only [↓E1, ↓E2, ↓E3]
  rw [cnd_ndec]
  constructor
  · intro hk
    have hb := kd_not (l := l) (k := 13) hk
    rw [hb] at hno hok hbad
    simp only [cond_false] at hno hok hbad
    refine (ih f (Nat.le_refl _)).expr hd40 hl hT h1 (andThen_not_out hno) (fun n l1 hr => ?_) (fun q e hq => ?_)
    · rw [hr] at hok
      simp only [andThen_eq_ok] at hok
      intro g1 c v1 w2 hg1 hc hT1 hl1 h2
      simp only [↓E3]
      refine st_box h2.swap2 hc.len rfl hc.one fun w3 h3 => ?_
      refine h3.ldn0 (c := c) hc.len.symm ?_
      exact hok _ _ _ rfl g1 c v1 w3 hg1 hc hT1 hl1 h3.tail
    · rw [hq] at hbad
      exact (hbad _ _ rfl).drop
  · intro hk
    have hb := kd_of (l := l) (k := 13) hk
    rw [hb] at hno hok hbad
    simp only [cond_true] at hno hok hbad
    refine c_take hl hT h1 fun v' w2 hT' h2 => ?_
    simp only [↓E3, fl_pos]
    refine bdI (cs := [i64 ((11 : Nat) : Int), str [], i64 ((hd l).pos : Int), i64 ((0 : Nat) : Int), .slice none 0 0, .slice none 0 0]) rfl ?_
    refine h2.al fun b4 w3 h3 => ?_
    refine st_box (c2 := zN) h3 rfl rfl rfl fun w4 h4 => ?_
    refine (ih f (Nat.le_refl _)).expr hd40 hl.tk hT' h4.swap2 (andThen_not_out hno) (fun n l1 hr => ?_) (fun q e hq => ?_)
    · rw [hr] at hok
      simp only [andThen_eq_ok] at hok
      intro g1 c v1 w5 hg1 hc hT1 hl1 h5
      simp only [↓E1, ↓E3, Nat.reduceAdd]
      refine h5.bs (fill1 (z := zN) hc.len rfl) fun b6 w6 h6 => ?_
      obtain ⟨g2, hg2, h7, hsl⟩ := Sat.frz (n := 1) (sz := 6) h6 (by simp [hc.len]) (by omega)
      refine h7.swap2.st rfl (by simp) rfl fun w8 h8 => ?_
      have h8 : Sat g2 w8 ((b4, box [i64 ((11 : Nat) : Int), str [], i64 ((hd l).pos : Int), i64 ((0 : Nat) : Int), .slice none 0 0, .slice (some ⟨b6, 0, none⟩) 1 1]) :: (p, prs v1 d) :: (b2, box zN) :: H) := h8
      have hkr := KR.nil.cons (hc.mono hg2)
      have hN : NodeR g2 [i64 ((11 : Nat) : Int), str [], i64 ((hd l).pos : Int), i64 ((0 : Nat) : Int), .slice none 0 0, .slice (some ⟨b6, 0, none⟩) 1 1] (.mk 11 [] (hd l).pos 0 [] [n]) := .mk (kcs := [c]) (Sl.nil g2 1) (by simpa using hsl) hkr.1 hkr.2
      have h9 := h8.perm (.cons _ (List.Perm.swap _ _ _))
      refine ret_box h9 rfl rfl hN.one fun w10 h10 => ?_
      exact hok _ _ _ rfl g2 _ v1 w10 (hg1.trans hg2) hN (hT1.mono hg2) hl1 h10
    · rw [hq] at hbad
      exact (hbad _ _ rfl).drop.drop

theorem pcells (p : Nat) : (ptr p 0).cells.toList = [ptr p 0] := rfl

theorem k_expr {f : Nat} (ih : ∀ f' ≤ f, AllOK f') : CN F.tree_parser_expression (expr (f + 1)) := by
  intro p d l v g w H R hd40 hl hT hS hno hok hbad
  simp only [expr] at hno hok hbad
  apply t_tree_parser_expression
  unfold d_tree_parser_expression
  rw [pcells]
  refine hS.al fun b1 w1 h1 => h1.al fun b2 w2 h2 => ?_
  have h3 : Sat g w2 ((p, prs v d) :: (b2, box zN) :: (b1, pbx p) :: H) := h2.perm (List.perm_middle (l₁ := [(b2, _), (b1, _)]))
  simp only [↓E2]
  refine jn1 (fun x w => x = .bool (Nat.beq (kd l) 1 && Nat.beq (kd l.tail) 7) ∧ Sat g w ((p, prs v d) :: (b2, box zN) :: (b1, pbx p) :: H)) ?_ ?_
  · rintro x w4 ⟨rfl, h4⟩
    simp only [↓E1, ↓E2, ↓E3, ↓h4.ld2, Nat.reduceAdd, Nat.reduceLT]
    rw [cnd_eq]
    constructor
    · intro hc
      rw [hc] at hno hok hbad
      simp only [cond_true] at hno hok hbad
      refine c_take hl hT h4 fun v' w5 hT' h5 => ?_
      simp only [↓E3]
      refine h5.al fun b3 w6 h6 => ?_
      refine h6.st (c := [i64 0, str [], i64 0]) rfl (by simp) rfl fun w7 h7 => ?_
      have h7 : Sat g w7 ((b3, tbx (hd l)) :: (p, prs v' d) :: (b2, box zN) :: (b1, pbx p) :: H) := h7
      simp only [↓E1, Nat.reduceAdd]
      rw [h7.ld0 1 _ (by simp [tokCells])]
      rw [h7.ld0 2 _ (by simp [tokCells])]
      refine bdI (cs := [i64 ((6 : Nat) : Int), str (hd l).text, i64 ((hd l).pos : Int), i64 ((0 : Nat) : Int), .slice none 0 0, .slice none 0 0]) rfl ?_
      refine h7.al fun b4 w8 h8 => ?_
      refine st_box (c2 := zN) h8 rfl rfl rfl fun w9 h9 => ?_
      have h10 : Sat g w9 ((p, prs v' d) :: (b4, box [i64 ((6 : Nat) : Int), str (hd l).text, i64 ((hd l).pos : Int), i64 ((0 : Nat) : Int), .slice none 0 0, .slice none 0 0]) :: (b3, tbx (hd l)) :: (b2, box zN) :: (b1, pbx p) :: H) :=
        h9.perm (List.perm_middle (l₁ := [(b4, _), (b3, _)]))
      rw [h10.ldH (b := b1) (c := [ptr p 0]) (t := Ty.p_tree_parser) (fr := (0, 0)) (by simp) 0 _ (by simp)]
      have dropB : ∀ {q e : Nat}, Bad g R p H q e → Bad g R p ((b4, box [i64 ((6 : Nat) : Int), str (hd l).text, i64 ((hd l).pos : Int), i64 ((0 : Nat) : Int), .slice none 0 0, .slice none 0 0]) :: (b3, tbx (hd l)) :: (b2, box zN) :: (b1, pbx p) :: H) q e := fun h => h.drop.drop.drop.drop
      simp only [List.getD_cons_zero]
      refine c_within hd40 hl.tk hT' h10 (fun h40 w11 h11 => ?_) (fun h40 v2 w11 hT2 h11 => ?_)
      · have hw : within d (tk l) (fun d l1 => (expr f d l1).andThen fun e l2 => Res.ok (Node.mk 6 (hd l).text (hd l).pos 0 [] [e]) l2) = .bad (hd (tk l)).pos 3 := by unfold within; rw [h40]; rfl
        exact bad_syn (dropB (hbad _ _ hw)) h11
      · have hw : within d (tk l) (fun d l1 => (expr f d l1).andThen fun e l2 => Res.ok (Node.mk 6 (hd l).text (hd l).pos 0 [] [e]) l2) = (expr f (d + 1) (tk (tk l))).andThen fun e l2 => Res.ok (Node.mk 6 (hd l).text (hd l).pos 0 [] [e]) l2 := by unfold within; rw [h40]; rfl
        rw [hw] at hno hok hbad
        have hd39 : d + 1 ≤ 40 := by
          have : d ≠ 40 := fun e => by rw [e] at h40; simp at h40
          omega
        show Tr P F.tree_parser_expression_1 [ptr b1 0, ptr b4 0] w11 _
        apply t_tree_parser_expression_1
        unfold d_tree_parser_expression_1
        rw [h11.ldH (b := b1) (c := [ptr p 0]) (t := Ty.p_tree_parser) (fr := (0, 0)) (by simp) 0 _ (by simp)]
        simp only [↓E2, List.getD_cons_zero]
        refine (ih f (Nat.le_refl _)).expr hd39 hl.tk.tk hT2 h11 (andThen_not_out hno) (fun n l1 hr => ?_) (fun q e hq => ?_)
        · rw [hr] at hok
          simp only [andThen_eq_ok] at hok
          intro g1 c v3 w12 hg1 hc hT3 hl3 h12
          simp only [↓E1, ↓E3]
          refine h12.bs (fill1 (z := zN) hc.len rfl) fun b6 w13 h13 => ?_
          obtain ⟨g2, hg2, h14, hsl⟩ := Sat.frz (n := 1) (sz := 6) h13 (by simp [hc.len]) (by omega)
          refine h14.swap2.st rfl (by simp) rfl fun w15 h15 => ?_
          have h15 : Sat g2 w15 ((b4, box [i64 ((6 : Nat) : Int), str (hd l).text, i64 ((hd l).pos : Int), i64 ((0 : Nat) : Int), .slice none 0 0, .slice (some ⟨b6, 0, none⟩) 1 1]) :: (p, prs v3 (d + 1)) :: (b3, tbx (hd l)) :: (b2, box zN) :: (b1, pbx p) :: H) := h15
          refine ⟨g2, v3, _, h15.swap2, fun w16 h16 => ?_⟩
          try simp only [↓E3]
          have hkr := KR.nil.cons (hc.mono hg2)
          have hN : NodeR g2 [i64 ((6 : Nat) : Int), str (hd l).text, i64 ((hd l).pos : Int), i64 ((0 : Nat) : Int), .slice none 0 0, .slice (some ⟨b6, 0, none⟩) 1 1] (.mk 6 (hd l).text (hd l).pos 0 [] [n]) := .mk (kcs := [c]) (Sl.nil g2 1) (by simpa using hsl) hkr.1 hkr.2
          have h17 := Sat.del (A := [(p, _), (b4, _)]) h16
          have h18 := Sat.del (A := [(p, _), (b4, _), (b2, _)]) h17
          have h19 : Sat g2 w16 ((b4, box [i64 ((6 : Nat) : Int), str (hd l).text, i64 ((hd l).pos : Int), i64 ((0 : Nat) : Int), .slice none 0 0, .slice (some ⟨b6, 0, none⟩) 1 1]) :: (b2, box zN) :: (p, prs v3 d) :: H) :=
            Sat.perm h18 (List.perm_middle (l₁ := [(b4, _), (b2, _)])).symm
          refine ret_box h19 rfl rfl hN.one fun w20 h20 => ?_
          exact hok _ _ rfl g2 _ v3 w20 (hg1.trans hg2) hN (hT3.mono hg2) hl3 h20
        · rw [hq] at hbad
          intro g1 v3 d3 w12 hg1 h12
          exact dropB (hbad _ _ rfl) g1 v3 d3 w12 hg1 h12
    · intro hc
      rw [hc] at hno hok hbad
      simp only [cond_false] at hno hok hbad
      refine (ih f (Nat.le_refl _)).casc hd40 hl hT h4 hno (fun n l1 hr => ?_) (fun q e hq => ((hbad _ _ hq).drop).drop)
      intro g1 c v1 w5 hg1 hc' hT1 hl1 h5
      simp only [↓E3]
      refine st_box h5.swap2 hc'.len rfl hc'.one fun w6 h6 => ?_
      refine h6.ldn0 (c := c) hc'.len.symm ?_
      exact hok _ _ hr g1 c v1 w6 hg1 hc' hT1 hl1 (Sat.drop1 (A := [(b1, _)]) h6.tail)
  · intro k1 hk1
    simp only [↓E1, ↓E2, ↓E3, ↓h3.ld2, Nat.reduceAdd, Nat.reduceLT]
    refine c_kind hl hT h3 ?_
    simp only [↓E1, ↓E2, ↓E3]
    rw [cnd_dec]
    constructor
    · intro hk
      have hb := kd_of (l := l) (k := 1) hk
      have h0 : Nat.beq (kd l) 0 = false := by have := Nat.eq_of_beq_eq_true hb; rw [this]; rfl
      have hlt := (hl.tail h0).hd.1
      simp only [↓h3.ld2, ↓h3.ld0, ↓E1, ↓E3, Nat.reduceAdd, Nat.reduceLT]
      refine TS.at hT (j := 1) h3 (t := hd l.tail) (by rw [← hlt]; simp) fun b o c0 _ _ => ?_
      simp only [↓E1, Nat.add_zero]
      rw [h3.ldI c0]
      simp only [↓E1]
      refine hk1 _ _ ⟨?_, h3⟩
      rw [hb, Bool.true_and]
      congr 1
      rw [Bool.eq_iff_iff]
      simp only [decide_eq_true_eq]
      constructor
      · intro h; exact kd_of (l := l.tail) (k := 7) h
      · intro h; have := Nat.eq_of_beq_eq_true h; unfold kd at this; omega
    · intro hk
      have hb := kd_not (l := l) (k := 1) hk
      exact hk1 _ _ ⟨by rw [hb]; rfl, h3⟩
end Go.Vx
namespace Go.Vx
open Go Go.Proofs
variable {R : Ending → World → Prop} {g : G} {w : World} {H hp T : Hp}

/-- The last element of a slice that grows is written. -/
theorem Grow.last {e : TypeId} {v : Value} {n : Nat} {cs z : List Value} (hg : Grow e 6 v (n + 1) (cs ++ z) hp) (hz : z.length = 6) (hcs : cs.length = n * 6) :
    ∃ b cp ex, v = .slice (Option.some ⟨b, 0, none⟩) (n + 1) cp ∧ hp = [(b, .cells (cs ++ z ++ ex).toArray e)] ∧
      (∀ (c : List Value) (g : G) (w : World) (T : Hp) (K : World → Prop), c.length = 6 → allOne c = true → Sat g w ((b, .cells (cs ++ z ++ ex).toArray e) :: T) →
        (∀ w', Sat g w' ((b, .cells (cs ++ c ++ ex).toArray e) :: T) → K w') → st 6 (ptr b (0 + ((n : Nat) : Int).toNat * 6)) (.agg c.toArray) K w) ∧
      ∀ c : List Value, c.length = 6 → Grow e 6 v (n + 1) (cs ++ c) [(b, .cells (cs ++ c ++ ex).toArray e)] := by
  rcases hg.inv with ⟨_, h, _⟩ | ⟨b, cp, ex, rfl, h1, h2, h3, h4, rfl⟩
  · omega
  · refine ⟨b, cp, ex, rfl, rfl, ?_, fun c hc => .some (by simp [hcs, hc]; omega) h2 h3 h4⟩
    intro c g w T K hc hone hS hk
    refine hS.st (v := .agg c.toArray) (by simp [Value.cells, hc]) (by simp [hcs, hz]) (by simpa [Value.cells] using hone) fun w' hw => hk w' ?_
    have e1 : wr (cs ++ z ++ ex).toArray (0 + ((n : Nat) : Int).toNat * 6) (Value.agg c.toArray).cells.toList = (cs ++ c ++ ex).toArray := by
      have := wr_app c cs (z ++ ex) (by simp [hz, hc])
      have e2 : 0 + ((n : Nat) : Int).toNat * 6 = cs.length := by rw [hcs]; simp
      rw [e2]
      have e3 : (z ++ ex).drop c.length = ex := by rw [hc, List.drop_append_of_le_length (by omega), List.drop_eq_nil_of_le (by omega)]; rfl
      rw [e3] at this
      rw [List.append_assoc cs z ex]
      exact this
    rw [e1] at hw
    exact hw

theorem app_A {v' kv x0 x1 x2 x3 x4 : Value} {n b3 : Nat} {cs z c : List Value} {K : World → Prop} (hg : Grow 50 6 v' (n + 1) (cs ++ z) hp) (hz : z.length = 6) (hcs : cs.length = n * 6) (hc : c.length = 6) (hone : allOne c = true)
    (h : Sat g w (hp ++ ((b3, box [x0, x1, x2, x3, x4, kv]) :: T))) (hk : ∀ hp3 w', Grow 50 6 v' (n + 1) (cs ++ c) hp3 → Sat g w' ((b3, box [x0, x1, x2, x3, x4, v']) :: (hp3 ++ T)) → K w') :
    ia 6 v' (i64 (n : Int)) (fun t w => st 6 t (.agg c.toArray) (fun w => st 1 (ptr b3 5) v' K w) w) w := by
  obtain ⟨b, cp, ex, rfl, rfl, hst, hgr⟩ := hg.last hz hcs
  rw [ia_eq]
  refine ⟨by omega, by omega, ?_⟩
  refine hst c g w _ _ hc hone h fun w1 h1 => ?_
  refine h1.swap2.st rfl (by simp) rfl fun w2 h2 => ?_
  exact hk _ _ (hgr c hc) h2

theorem app_B {v' kv x0 x1 x2 x3 x4 : Value} {n b3 : Nat} {cs z c : List Value} {K : World → Prop} (hg : Grow 50 6 v' (n + 1) (cs ++ z) hp) (hz : z.length = 6) (hcs : cs.length = n * 6) (hc : c.length = 6) (hone : allOne c = true)
    (h : Sat g w (hp ++ ((b3, box [x0, x1, x2, x3, x4, kv]) :: T))) (hk : ∀ hp3 w', Grow 50 6 v' (n + 1) (cs ++ c) hp3 → Sat g w' ((b3, box [x0, x1, x2, x3, x4, v']) :: (hp3 ++ T)) → K w') :
    ia 6 v' (i64 (n : Int)) (fun t w => st 1 (ptr b3 5) v' (fun w => st 6 t (.agg c.toArray) K w) w) w := by
  obtain ⟨b, cp, ex, rfl, rfl, hst, hgr⟩ := hg.last hz hcs
  rw [ia_eq]
  refine ⟨by omega, by omega, ?_⟩
  have h := Sat.swap2 h
  refine h.st rfl (by simp) rfl fun w1 h1 => ?_
  refine hst c g w1 _ _ hc hone h1.swap2 fun w2 h2 => ?_
  exact hk _ _ (hgr c hc) h2.swap2

theorem zN_len : zN.length = 6 := rfl
theorem fillZ : fillV ((List.range (1 * zN.length)).map (fun i => zN.getD (i % zN.length) undef)) [(0, 6, .agg zN.toArray)] = some zN := fill1 (z := zN) rfl rfl

theorem k_lst {f : Nat} (ih : ∀ f' ≤ f, AllOK f') : CN F.tree_parser_list (lst (f + 1)) := by
  intro p d l v g w H R hd40 hl hT hS hno hok hbad
  simp only [lst] at hno hok hbad
  apply t_tree_parser_list
  unfold d_tree_parser_list
  rw [pcells]
  refine hS.al fun b1 w1 h1 => h1.al fun b2 w2 h2 => ?_
  have h3 : Sat g w2 ((p, prs v d) :: (b2, box zN) :: (b1, pbx p) :: H) := h2.perm (List.perm_middle (l₁ := [(b2, _), (b1, _)]))
  simp only [↓E1, ↓E2, ↓E3, ↓h3.ld2, ↓h3.ld0, Nat.reduceAdd, Nat.reduceLT]
  refine TS.at hT (j := 0) h3 hl.hd.1 fun b o _ _ c2 => ?_
  simp only [↓E1]
  rw [h3.ldI c2]
  refine bdI (cs := [i64 ((4 : Nat) : Int), str [], i64 ((hd l).pos : Int), i64 ((0 : Nat) : Int), .slice none 0 0, .slice none 0 0]) rfl ?_
  refine h3.al fun b3 w4 h4 => ?_
  refine st_box (c2 := zN) h4 rfl rfl rfl fun w5 h5 => ?_
  have h6 := h5.swap2
  rw [h6.ld3 0 _ (by simp)]
  simp only [List.getD_cons_zero]
  refine c_within hd40 hl hT h6 (fun h40 w7 h7 => ?_) (fun h40 v2 w7 hT2 h7 => ?_)
  · have hw : within d l (fun d l1 => lstL f d (hd l).pos [] l1) = .bad (hd l).pos 3 := by unfold within; rw [h40]; rfl
    exact bad_syn ((hbad _ _ hw).drop.drop.drop) h7
  have hw : within d l (fun d l1 => lstL f d (hd l).pos [] l1) = lstL f (d + 1) (hd l).pos [] (tk l) := by unfold within; rw [h40]; rfl
  rw [hw] at hno hok hbad
  have hd39 : d + 1 ≤ 40 := by
    have : d ≠ 40 := fun e => by rw [e] at h40; simp at h40
    omega
  have hl97 := hl.len
  have htl := tk_le l
  show Tr P F.tree_parser_list_1 [ptr b1 0, ptr b3 0] w7 _
  apply t_tree_parser_list_1
  unfold d_tree_parser_list_1
  have h7 : Sat g w7 ((p, prs v2 (d + 1)) :: (b3, box [i64 ((4 : Nat) : Int), str [], i64 ((hd l).pos : Int), i64 ((0 : Nat) : Int), .slice none 0 0, .slice none 0 0]) :: ([] ++ ((b2, box zN) :: (b1, pbx p) :: H))) := h7
  refine lp0 (fun m w => ∃ g2 l2 v2 kids kcs kv hp f1, g.le g2 ∧ TS g2 v2 l2 ∧ WFL l2 ∧ m = l2.length ∧ f1 ≤ f ∧ kids.length + l2.length ≤ 5000 ∧ KR g2 kcs kids ∧ Grow 50 6 kv kids.length kcs.flatten hp ∧
    lstL f1 (d + 1) (hd l).pos kids l2 ≠ .out ∧ (∀ n l', lstL f1 (d + 1) (hd l).pos kids l2 = .ok n l' → OkN g R p d H n l') ∧ (∀ q' e, lstL f1 (d + 1) (hd l).pos kids l2 = .bad q' e → Bad g R p H q' e) ∧
    Sat g2 w ((p, prs v2 (d + 1)) :: (b3, box [i64 ((4 : Nat) : Int), str [], i64 ((hd l).pos : Int), i64 ((0 : Nat) : Int), .slice none 0 0, kv]) :: (hp ++ ((b2, box zN) :: (b1, pbx p) :: H)))) rfl (tk l).length
    ⟨g, tk l, v2, [], [], _, [], f, .refl g, hT2, hl.tk, rfl, Nat.le_refl _, by simp; omega, .nil, .nil, hno, hok, hbad, h7⟩ ?_
  clear h7 h6 h5 h4 h3 h2 h1 hno hok hbad hw
  rintro m w8 ⟨g2, l2, v3, kids, kcs, kv, hp, f1, hg2, hT3, hl2, rfl, hf1, hks, hkr, hgr, hno, hok, hbad, h8⟩
  obtain ⟨f2, rfl⟩ : ∃ f2, f1 = f2 + 1 := by
    cases f1 with
    | zero => simp [lstL] at hno
    | succ f2 => exact ⟨f2, rfl⟩
  simp only [lstL] at hno hok hbad
  have ldp : ∀ {g : G} {w : World} {d : Nat} {v kv : Value} {hp : Hp} (h : Sat g w ((p, prs v d) :: (b3, box [i64 ((4 : Nat) : Int), str [], i64 ((hd l).pos : Int), i64 ((0 : Nat) : Int), .slice none 0 0, kv]) :: (hp ++ ((b2, box zN) :: (b1, pbx p) :: H)))) (K : Value → World → Prop), ld (ptr b1 0) K w = K (ptr p 0) w :=
    fun h K => h.ldH (b := b1) (c := [ptr p 0]) (t := Ty.p_tree_parser) (fr := (0, 0)) (by simp) 0 K (by simp)
  rw [ldp h8]
  simp only [↓E2]
  refine c_kind hl2 hT3 h8 ?_
  simp only [↓E1, ↓E2, ↓E3]
  rw [cnd_ndec]
  constructor
  · intro hk
    have hb := kd_not (l := l2) (k := 9) hk
    rw [hb] at hno hok hbad
    simp only [cond_false] at hno hok hbad
    have h9 := h8.drew
    obtain ⟨a, cp, rfl⟩ := hgr.slice
    simp only [↓h9.ld1, ldp h9, ↓E1, ↓E2, ↓E3, Nat.reduceAdd, Nat.reduceLT]
    have helem : ∀ {w : World} {H' : Hp} {R' : Ending → World → Prop}, Sat g2 w ((p, prs v3 (d + 1)) :: H') → (∀ n l', elem f2 (d + 1) l2 = .ok n l' → OkN g2 R' p (d + 1) H' n l') → (∀ q e, elem f2 (d + 1) l2 = .bad q e → Bad g2 R' p H' q e) → Tr P F.tree_parser_element [ptr p 0] w R' :=
      fun h h1 h2 => (ih f2 (by omega)).elem hd39 hl2 hT3 h (andThen_not_out hno) h1 h2
    have next : ∀ {n : Node} {l3 : List Tok} {g3 : G} {c : List Value} {v4 v' : Value} {hp3 : Hp} {w' : World}, elem f2 (d + 1) l2 = .ok n l3 → g2.le g3 → NodeR g3 c n → TS g3 v4 l3 → WFL l3 → Grow 50 6 v' (kids.length + 1) (kcs.flatten ++ c) hp3 →
        Sat g3 w' ((b3, box [i64 ((4 : Nat) : Int), str [], i64 ((hd l).pos : Int), i64 ((0 : Nat) : Int), .slice none 0 0, v']) :: (hp3 ++ ((p, prs v4 (d + 1)) :: (b2, box zN) :: (b1, pbx p) :: H))) →
        ∃ m', m' < l2.length ∧ True ∧ ∃ g2 l2 v2 kids kcs kv hp f1, g.le g2 ∧ TS g2 v2 l2 ∧ WFL l2 ∧ m' = l2.length ∧ f1 ≤ f ∧ kids.length + l2.length ≤ 5000 ∧ KR g2 kcs kids ∧ Grow 50 6 kv kids.length kcs.flatten hp ∧
          lstL f1 (d + 1) (hd l).pos kids l2 ≠ .out ∧ (∀ n l', lstL f1 (d + 1) (hd l).pos kids l2 = .ok n l' → OkN g R p d H n l') ∧ (∀ q' e, lstL f1 (d + 1) (hd l).pos kids l2 = .bad q' e → Bad g R p H q' e) ∧
          Sat g2 w' ((p, prs v2 (d + 1)) :: (b3, box [i64 ((4 : Nat) : Int), str [], i64 ((hd l).pos : Int), i64 ((0 : Nat) : Int), .slice none 0 0, kv]) :: (hp ++ ((b2, box zN) :: (b1, pbx p) :: H))) := by
      intro n l3 g3 c v4 v' hp3 w' hr hg3 hc hT4 hl3 hg4 h10
      rw [hr] at hno hok hbad
      simp only [andThen_eq_ok] at hno hok hbad
      have hlt := ((prog f2).elem hr).1
      have h11 := Sat.swap2 (Sat.pull1 (A := hp3) (hp := [(p, _)]) h10)
      refine ⟨l3.length, hlt, trivial, g3, l3, v4, kids ++ [n], kcs ++ [c], v', hp3, f2, hg2.trans hg3, hT4, hl3, rfl, by omega, ?_, (hkr.mono hg3).snoc hc, ?_, hno, hok, hbad, h11⟩
      · simp only [List.length_append, List.length_cons, List.length_nil]; omega
      · simpa using hg4
    have badE : ∀ {H' : Hp} {q e : Nat}, elem f2 (d + 1) l2 = .bad q e → (∀ {g' : G} {v' : Value} {d' : Nat} {w' : World}, Sat g' w' ((p, prs v' d') :: H') → Sat g' w' ((p, prs v' d') :: H)) → ∀ (g' : G) (v' : Value) (d' : Nat) (w' : World), g2.le g' → Sat g' w' ((p, prs v' d') :: H') → R (.panicked (stopE q e)) w' := by
      intro H' q e hq hsub g' v' d' w' hg' h'
      rw [hq] at hbad
      exact hbad _ _ rfl g' v' d' w' (hg2.trans hg') (hsub h')
    constructor
    · constructor
      · refine helem h9 (fun n l3 hr => ?_) (fun q e hq => badE hq (fun h => Sat.drop1 (A := [(b2, _), (b1, _)]) (Sat.drop1 (A := (b3, _) :: hp) h)))
        intro g3 c v4 w10 hg3 hc hT4 hl4 h10
        simp only [↓E3]
        refine h10.rk (b := b3) (t := 50) (fr := (0, 0)) (c := [i64 ((4 : Nat) : Int), str [], i64 ((hd l).pos : Int), i64 ((0 : Nat) : Int), .slice none 0 0, .slice a kids.length cp]) (by simp) rfl ?_
        refine h10.bs fillZ fun b8 w11 h11 => ?_
        refine h11.rk (b := b3) (t := 50) (fr := (0, 0)) (c := [i64 ((4 : Nat) : Int), str [], i64 ((hd l).pos : Int), i64 ((0 : Nat) : Int), .slice none 0 0, .slice a kids.length cp]) (by simp) rfl ?_
        have h12 := Sat.pull1 (A := [(p, _), (b3, _)]) h11
        refine Sat.ap1 (m := 1) (c := 1) h12 hgr rfl rfl rfl (by omega) (by omega) fun v' hp2 w13 hg13 h13 => ?_
        have h14 := Sat.perm h13 (List.Perm.append_left hp2 (List.Perm.swap (b3, _) (p, _) _))
        exact app_A hg13 zN_len hgr.len hc.len hc.one h14 fun hp3 w15 hg15 h15 => next hr hg3 hc hT4 hl4 hg15 h15
      · refine helem h9 (fun n l3 hr => ?_) (fun q e hq => badE hq (fun h => Sat.drop1 (A := [(b2, _), (b1, _)]) (Sat.drop1 (A := (b3, _) :: hp) h)))
        intro g3 c v4 w10 hg3 hc hT4 hl4 h10
        simp only [↓E3]
        refine h10.rk (b := b3) (t := 50) (fr := (0, 0)) (c := [i64 ((4 : Nat) : Int), str [], i64 ((hd l).pos : Int), i64 ((0 : Nat) : Int), .slice none 0 0, .slice a kids.length cp]) (by simp) rfl ?_
        refine h10.bs fillZ fun b8 w11 h11 => ?_
        refine h11.rk (b := b3) (t := 50) (fr := (0, 0)) (c := [i64 ((4 : Nat) : Int), str [], i64 ((hd l).pos : Int), i64 ((0 : Nat) : Int), .slice none 0 0, .slice a kids.length cp]) (by simp) rfl ?_
        have h12 := Sat.pull1 (A := [(p, _), (b3, _)]) h11
        refine Sat.ap1 (m := 1) (c := 1) h12 hgr rfl rfl rfl (by omega) (by omega) fun v' hp2 w13 hg13 h13 => ?_
        have h14 := Sat.perm h13 (List.Perm.append_left hp2 (List.Perm.swap (b3, _) (p, _) _))
        exact app_B hg13 zN_len hgr.len hc.len hc.one h14 fun hp3 w15 hg15 h15 => next hr hg3 hc hT4 hl4 hg15 h15
    · constructor
      · refine h9.bs fillZ fun b8 w10 h10 => ?_
        refine h10.rk (b := b1) (t := Ty.p_tree_parser) (fr := (0, 0)) (c := [ptr p 0]) (by simp) rfl ?_
        refine h10.rk (b := b3) (t := 50) (fr := (0, 0)) (c := [i64 ((4 : Nat) : Int), str [], i64 ((hd l).pos : Int), i64 ((0 : Nat) : Int), .slice none 0 0, .slice a kids.length cp]) (by simp) rfl ?_
        refine helem h10.swap2 (fun n l3 hr => ?_) (fun q e hq => badE hq (fun h => Sat.drop1 (A := [(b2, _), (b1, _)]) (Sat.drop1 (A := (b8, _) :: (b3, _) :: hp) h)))
        intro g3 c v4 w11 hg3 hc hT4 hl4 h11
        simp only [↓E3]
        refine h11.rk (b := b3) (t := 50) (fr := (0, 0)) (c := [i64 ((4 : Nat) : Int), str [], i64 ((hd l).pos : Int), i64 ((0 : Nat) : Int), .slice none 0 0, .slice a kids.length cp]) (by simp) rfl ?_
        have h12 := Sat.pull1 (A := [(p, _), (b3, _)]) h11.swap2
        refine Sat.ap1 (m := 1) (c := 1) h12 hgr rfl rfl rfl (by omega) (by omega) fun v' hp2 w13 hg13 h13 => ?_
        have h14 := Sat.perm h13 (List.Perm.append_left hp2 (List.Perm.swap (b3, _) (p, _) _))
        exact app_A hg13 zN_len hgr.len hc.len hc.one h14 fun hp3 w15 hg15 h15 => next hr hg3 hc hT4 hl4 hg15 h15
      · refine h9.bs fillZ fun b8 w10 h10 => ?_
        refine h10.rk (b := b1) (t := Ty.p_tree_parser) (fr := (0, 0)) (c := [ptr p 0]) (by simp) rfl ?_
        refine h10.rk (b := b3) (t := 50) (fr := (0, 0)) (c := [i64 ((4 : Nat) : Int), str [], i64 ((hd l).pos : Int), i64 ((0 : Nat) : Int), .slice none 0 0, .slice a kids.length cp]) (by simp) rfl ?_
        refine helem h10.swap2 (fun n l3 hr => ?_) (fun q e hq => badE hq (fun h => Sat.drop1 (A := [(b2, _), (b1, _)]) (Sat.drop1 (A := (b8, _) :: (b3, _) :: hp) h)))
        intro g3 c v4 w11 hg3 hc hT4 hl4 h11
        simp only [↓E3]
        refine h11.rk (b := b3) (t := 50) (fr := (0, 0)) (c := [i64 ((4 : Nat) : Int), str [], i64 ((hd l).pos : Int), i64 ((0 : Nat) : Int), .slice none 0 0, .slice a kids.length cp]) (by simp) rfl ?_
        have h12 := Sat.pull1 (A := [(p, _), (b3, _)]) h11.swap2
        refine Sat.ap1 (m := 1) (c := 1) h12 hgr rfl rfl rfl (by omega) (by omega) fun v' hp2 w13 hg13 h13 => ?_
        have h14 := Sat.perm h13 (List.Perm.append_left hp2 (List.Perm.swap (b3, _) (p, _) _))
        exact app_B hg13 zN_len hgr.len hc.len hc.one h14 fun hp3 w15 hg15 h15 => next hr hg3 hc hT4 hl4 hg15 h15
  · intro hk
    have hb := kd_of (l := l2) (k := 9) hk
    rw [hb] at hok
    simp only [cond_true] at hok
    rw [ldp h8]
    refine c_take hl2 hT3 h8 fun v4 w9 hT4 h9 => ?_
    simp only [↓E3]
    have h10 := Sat.pull (A := [(p, _), (b3, _)]) h9
    obtain ⟨g3, hg3, h11, hsl⟩ := hgr.freeze h10
    have hkr3 := hkr.mono hg3
    have hN3 : NodeR g3 [i64 ((4 : Nat) : Int), str [], i64 ((hd l).pos : Int), i64 ((0 : Nat) : Int), .slice none 0 0, kv] (.mk 4 [] (hd l).pos 0 [] kids) := .mk (Sl.nil g3 1) hsl hkr3.1 hkr3.2
    refine ⟨g3, v4, _, h11, fun w12 h12 => ?_⟩
    have h13 : Sat g3 w12 ((b3, box [i64 ((4 : Nat) : Int), str [], i64 ((hd l).pos : Int), i64 ((0 : Nat) : Int), .slice none 0 0, kv]) :: (b2, box zN) :: (p, prs v4 d) :: H) :=
      Sat.perm (Sat.del (A := [(p, _), (b3, _), (b2, _)]) h12) (List.perm_middle (l₁ := [(b3, _), (b2, _)])).symm
    refine ret_box h13 rfl rfl hN3.one fun w14 h14 => ?_
    exact hok _ _ rfl g3 _ v4 w14 (hg2.trans hg3) hN3 (hT4.mono hg3) hl2.tk h14
end Go.Vx
namespace Go.Vx
open Go Go.Proofs
variable {R : Ending → World → Prop} {g : G} {w : World} {H hp T : Hp}

theorem k_elem {f : Nat} (ih : ∀ f' ≤ f, AllOK f') : CN F.tree_parser_element (elem (f + 1)) := by
  intro p d l v g w H R hd40 hl hT hS hno hok hbad
  simp only [elem] at hno hok hbad
  apply t_tree_parser_element
  unfold d_tree_parser_element
  refine hS.al fun b2 w1 h1 => ?_
  have h1 : Sat g w1 ((p, prs v d) :: (b2, box zN) :: H) := h1.swap2
  simp only [↓E1, ↓E2, ↓E3, ↓h1.ld0, Nat.reduceAdd, Nat.reduceLT]
  refine hT.ldHd hl h1 ?_
  refine h1.al fun b3 w2 h2 => ?_
  refine h2.st (c := [i64 0, str [], i64 0]) rfl (by simp) rfl fun w3 h3 => ?_
  have h3 : Sat g w3 ((b3, tbx (hd l)) :: (p, prs v d) :: (b2, box zN) :: H) := h3
  simp only [↓E1, Nat.reduceAdd]
  rw [h3.ld0 1 _ (by simp [tokCells])]
  rw [h3.ld0 2 _ (by simp [tokCells])]
  refine bdI (cs := [i64 ((3 : Nat) : Int), str (hd l).text, i64 ((hd l).pos : Int), i64 ((0 : Nat) : Int), .slice none 0 0, .slice none 0 0]) rfl ?_
  refine h3.al fun b4 w4 h4 => ?_
  refine st_box (c2 := zN) h4 rfl rfl rfl fun w5 h5 => ?_
  rw [h5.ld1 0 _ (by simp [tokCells])]
  have h6 : Sat g w5 ((p, prs v d) :: (b4, box [i64 ((3 : Nat) : Int), str (hd l).text, i64 ((hd l).pos : Int), i64 ((0 : Nat) : Int), .slice none 0 0, .slice none 0 0]) :: (b3, tbx (hd l)) :: (b2, box zN) :: H) :=
    h5.perm (List.perm_middle (l₁ := [(b4, _), (b3, _)]))
  clear h1 h2 h3 h4 h5
  -- at the end
  have fin : ∀ (kk : Nat) (w6 : World), OkN g R p d H (.mk kk (hd l).text (hd l).pos 0 [] []) (tk l) → Sat g w6 ((p, prs v d) :: (b4, box [i64 (kk : Int), str (hd l).text, i64 ((hd l).pos : Int), i64 ((0 : Nat) : Int), .slice none 0 0, .slice none 0 0]) :: (b3, tbx (hd l)) :: (b2, box zN) :: H) →
      Tr P F.tree_parser_take [ptr p 0] w6 (Vx.back (fun _ w => ldn 6 (ptr b4 0) (fun t w => st 6 (ptr b2 0) t (fun w => ldn 6 (ptr b2 0) (fun r0 w => R (.returned r0) w) w) w) w) (fun ch w => R (.panicked ch) w)) := by
    intro kk w6 hk h
    refine c_take hl hT h fun v1 w7 hT1 h7 => ?_
    have h8 := Sat.perm (Sat.del (A := [(p, _), (b4, _)]) h7) (List.perm_middle (l₁ := [(b4, _), (b2, _)])).symm
    refine ret_box h8 rfl rfl rfl fun w9 h9 => ?_
    exact hk g _ v1 w9 (.refl g) (nodeR_leaf g kk _ _) hT1 hl.tk h9
  have setk : ∀ (kk : Nat), OkN g R p d H (.mk kk (hd l).text (hd l).pos 0 [] []) (tk l) →
      st 1 (ptr b4 0) (i64 (kk : Int)) (fun w => Tr P F.tree_parser_take [ptr p 0] w (Vx.back (fun _ w => ldn 6 (ptr b4 0) (fun t w => st 6 (ptr b2 0) t (fun w => ldn 6 (ptr b2 0) (fun r0 w => R (.returned r0) w) w) w) w) (fun ch w => R (.panicked ch) w))) w5 := by
    intro kk hk
    refine h6.swap2.st rfl (by simp) rfl fun w7 h7 => ?_
    exact fin kk w7 hk (Sat.swap2 h7)
  simp only [tokCells, ↓E1, ↓E2, ↓E3, Nat.reduceAdd]
  refine jn1 (fun x w => x = .bool (Nat.beq (kd l) 17 || Nat.beq (kd l) 8) ∧ w = w5) ?_ ?_
  · rintro x w6 ⟨rfl, rfl⟩
    rw [cnd_eq]
    constructor
    · intro hb
      rw [hb] at hno hok hbad
      simp only [cond_true] at hno hok hbad
      refine (ih f (Nat.le_refl _)).lst hd40 hl hT h6 hno (fun n l1 hr => ?_) (fun q e hq => (hbad _ _ hq).drop.drop.drop)
      intro g1 c v1 w7 hg1 hc hT1 hl1 h7
      simp only [↓E3]
      have h8 := Sat.del (A := [(p, _)]) (Sat.del (A := [(p, _), (b4, _)]) h7)
      refine st_box (Sat.swap2 h8) hc.len rfl hc.one fun w9 h9 => ?_
      refine h9.ldn0 (c := c) hc.len.symm ?_
      exact hok _ _ hr g1 c v1 w9 hg1 hc hT1 hl1 h9.tail
    intro hb
    rw [hb] at hno hok hbad
    simp only [cond_false] at hno hok hbad
    clear hb
    rw [cnd_dec]
    constructor
    · intro hk
      have hb := kd_of (l := l) (k := 4) hk
      rw [hb] at hok
      exact setk 1 (hok _ _ rfl)
    intro hk
    have hb := kd_not (l := l) (k := 4) hk
    rw [hb] at hno hok hbad
    simp only [cond_false] at hno hok hbad
    clear hb
    rw [cnd_dec]
    constructor
    · intro hk
      have hb := kd_of (l := l) (k := 5) hk
      rw [hb] at hok
      exact setk 2 (hok _ _ rfl)
    intro hk
    have hb := kd_not (l := l) (k := 5) hk
    rw [hb] at hno hok hbad
    simp only [cond_false] at hno hok hbad
    clear hb
    rw [cnd_dec]
    constructor
    · intro hk
      have hb := kd_of (l := l) (k := 1) hk
      rw [hb] at hok
      simp only [cond_true] at hok
      rw [h6.ld2 1 _ (by simp [tokCells])]
      simp only [tokCells, ↓E3, bS_eql]
      rw [cnd_dec]
      constructor
      · intro h
        have : ((hd l).text == trueT) = true := beq_iff_eq.2 h
        rw [this, Bool.true_or] at hok
        exact setk 13 (hok _ _ rfl)
      intro h
      have ht : ((hd l).text == trueT) = false := beq_eq_false_iff_ne.2 h
      rw [ht, Bool.false_or] at hok
      rw [h6.ld2 1 _ (by simp [tokCells])]
      simp only [tokCells, ↓E3, bS_eql]
      rw [cnd_dec]
      constructor
      · intro h
        have : ((hd l).text == falseT) = true := beq_iff_eq.2 h
        rw [this, Bool.true_or] at hok
        exact setk 13 (hok _ _ rfl)
      intro h
      have ht : ((hd l).text == falseT) = false := beq_eq_false_iff_ne.2 h
      rw [ht, Bool.false_or] at hok
      rw [h6.ld2 1 _ (by simp [tokCells])]
      simp only [tokCells, ↓E3, bS_eql]
      rw [cnd_dec]
      constructor
      · intro h
        have : ((hd l).text == nilT) = true := beq_iff_eq.2 h
        rw [this] at hok
        exact setk 13 (hok _ _ rfl)
      intro h
      have ht : ((hd l).text == nilT) = false := beq_eq_false_iff_ne.2 h
      rw [ht] at hok
      exact fin 3 w6 (hok _ _ rfl) h6
    intro hk
    have hb := kd_not (l := l) (k := 1) hk
    rw [hb] at hno hok hbad
    simp only [cond_false] at hno hok hbad
    clear hb
    rw [cnd_dec]
    constructor
    · intro hk
      have hb := kd_of (l := l) (k := 6) hk
      rw [hb, Bool.true_or] at hok
      have e : decide (((hd l).kind : Int) = 6) = true := by simpa using hk
      rw [e]
      simp only [↓E3]
      exact fin 3 w6 (hok _ _ rfl) h6
    intro hk
    have hb := kd_not (l := l) (k := 6) hk
    rw [hb, Bool.false_or] at hok hbad
    clear hb
    rw [cnd_dec]
    constructor
    · intro hk
      have hb := kd_of (l := l) (k := 2) hk
      rw [hb, Bool.true_or] at hok
      have e : decide (((hd l).kind : Int) = 2) = true := by simpa using hk
      rw [e]
      simp only [↓E3]
      exact fin 3 w6 (hok _ _ rfl) h6
    intro hk
    have hb := kd_not (l := l) (k := 2) hk
    rw [hb, Bool.false_or] at hok hbad
    clear hb
    rw [cnd_dec]
    constructor
    · intro hk
      have hb := kd_of (l := l) (k := 3) hk
      rw [hb] at hok
      exact fin 3 w6 (hok _ _ rfl) h6
    · intro hk
      have hb := kd_not (l := l) (k := 3) hk
      rw [hb] at hbad
      simp only [cond_false, syn] at hbad
      refine c_bad hl hT h6 ?_
      exact bad_syn ((hbad _ _ rfl).drop.drop.drop) h6
  · intro k1 hk1
    rw [cnd_dec]
    constructor
    · intro hk
      have hb := kd_of (l := l) (k := 17) hk
      have e : decide (((hd l).kind : Int) = 17) = true := by simpa using hk
      exact hk1 _ _ ⟨by rw [e, hb, Bool.true_or], rfl⟩
    · intro hk
      have hb := kd_not (l := l) (k := 17) hk
      refine hk1 _ _ ⟨?_, rfl⟩
      rw [hb, Bool.false_or]
      congr 1
      rw [Bool.eq_iff_iff]
      simp only [decide_eq_true_eq]
      constructor
      · intro h; exact kd_of (l := l) (k := 8) h
      · intro h; have := Nat.eq_of_beq_eq_true h; unfold kd at this; omega
end Go.Vx
namespace Go.Vx
open Go Go.Proofs
variable {R : Ending → World → Prop} {g : G} {w : World} {H hp T : Hp}

/-- What follows when temps and statements have been read into a box. -/
def OkD (g : G) (R : Ending → World → Prop) (p nb d : Nat) (H : Hp) (n : Node) (l' : List Tok) : Prop :=
  ∀ g' c v' w', g.le g' → NodeR g' c n → TS g' v' l' → WFL l' → Sat g' w' ((p, prs v' d) :: (nb, box c) :: H) → R (.returned (.tuple #[])) w'
/-- When somebody gives up: the box is there still. -/
def BadD (g : G) (R : Ending → World → Prop) (p nb : Nat) (H : Hp) (q e : Nat) : Prop :=
  ∀ g' v' d' (x : List Value) w', g.le g' → x.length = 6 → Sat g' w' ((p, prs v' d') :: (nb, box x) :: H) → R (.panicked (stopE q e)) w'
theorem Sat.drop2 {A : Hp} {x y : Nat × Obj} (h : Sat g w (x :: y :: (A ++ H))) : Sat g w (x :: y :: H) := Sat.drop (A := A) (h.perm (List.perm_append_comm_assoc [x, y] A H))
def CBody (f : Nat) : Prop :=
  ∀ {p nb d k kd0 q nn : Nat} {t : List UInt8} {names : List (List UInt8)} {nv v : Value} {hpn : Hp} {l : List Tok} {g : G} {w : World} {H : Hp} {R : Ending → World → Prop}, d ≤ 40 → WFL l → TS g v l → names.length + l.length ≤ 5000 → Grow Ty.string 1 nv names.length (names.map str) hpn →
    Sat g w ((p, prs v d) :: (nb, box [i64 (kd0 : Int), str t, i64 (q : Int), i64 (nn : Int), nv, .slice none 0 0]) :: (hpn ++ H)) → body f d k (.mk kd0 t q nn names []) l ≠ .out →
    (∀ n' l', body f d k (.mk kd0 t q nn names []) l = .ok n' l' → OkD g R p nb d H n' l') → (∀ q' e, body f d k (.mk kd0 t q nn names []) l = .bad q' e → BadD g R p nb H q' e) → Tr P F.tree_parser_body [ptr p 0, ptr nb 0, i64 (k : Int)] w R

theorem k_body {f : Nat} (ih : ∀ f' ≤ f, AllOK f') : CBody (f + 1) := by
  intro p nb d k kd0 q nn t names0 nv0 v hpn0 l g w H R hd40 hl hT hnl hgn0 hS hno0 hok0 hbad0
  have hl97 := hl.len
  simp only [body] at hno0 hok0 hbad0
  apply t_tree_parser_body
  unfold d_tree_parser_body
  have done : ∀ {g1 : G} {l1 : List Tok} {v1 : Value} {names : List (List UInt8)} {nv : Value} {hpn : Hp} {kids : List Node} {kcs : List (List Value)} {kv : Value} {hpk : Hp} (w : World), g.le g1 → TS g1 v1 l1 → WFL l1 → Grow Ty.string 1 nv names.length (names.map str) hpn → KR g1 kcs kids → Grow 50 6 kv kids.length kcs.flatten hpk →
      Sat g1 w ((p, prs v1 d) :: (nb, box [i64 (kd0 : Int), str t, i64 (q : Int), i64 (nn : Int), nv, kv]) :: (hpk ++ (hpn ++ H))) → OkD g R p nb d H (.mk kd0 t q nn names kids) l1 → R (.returned (.tuple #[])) w := by
    intro g1 l1 v1 names nv hpn kids kcs kv hpk w hg1 hT1 hl1 hgn hkr hgk h1 hok
    obtain ⟨g2, hg2, h2, hsk⟩ := hgk.freeze (Sat.pull (A := [(p, _), (nb, _)]) h1)
    obtain ⟨g3, hg3, h3, hsn⟩ := hgn.freeze (Sat.pull (A := [(p, _), (nb, _)]) h2)
    have hkr3 := hkr.mono (hg2.trans hg3)
    exact hok g3 _ v1 w (hg1.trans (hg2.trans hg3)) (.mk hsn (hsk.mono hg3) hkr3.1 hkr3.2) (hT1.mono (hg2.trans hg3)) hl1 h3
  obtain ⟨J0, hJ0⟩ : ∃ J0 : Nat → World → Prop, J0 = (fun m w => ∃ g1 l1 v1 kids kcs kv hpk names nv hpn f1, g.le g1 ∧ TS g1 v1 l1 ∧ WFL l1 ∧ m = l1.length ∧ f1 ≤ f ∧ Grow Ty.string 1 nv names.length (names.map str) hpn ∧ kids.length + l1.length ≤ 5000 ∧ KR g1 kcs kids ∧ Grow 50 6 kv kids.length kcs.flatten hpk ∧
    bodyL f1 d k (.mk kd0 t q nn names kids) l1 ≠ .out ∧ (∀ n' l', bodyL f1 d k (.mk kd0 t q nn names kids) l1 = .ok n' l' → OkD g R p nb d H n' l') ∧ (∀ q' e, bodyL f1 d k (.mk kd0 t q nn names kids) l1 = .bad q' e → BadD g R p nb H q' e) ∧
    Sat g1 w ((p, prs v1 d) :: (nb, box [i64 (kd0 : Int), str t, i64 (q : Int), i64 (nn : Int), nv, kv]) :: (hpk ++ (hpn ++ H)))) := ⟨_, rfl⟩
  obtain ⟨J, hJ⟩ : ∃ J : Nat → Nat → List Value → World → Prop, J = (fun m l vs w => l = 0 ∧ vs = [] ∧ J0 m w) := ⟨_, rfl⟩
  refine sc_intro J ?_ ?_
  · refine jn0 (fun w => ∃ m, J0 m w) ?_ ?_
    · rintro w0 ⟨m0, hJw⟩
      rw [hJ0] at hJw
      obtain ⟨g1, l1, v1, kids, kcs, kv, hpk, names, nv, hpn, f1, hg1, hT1, hl1, rfl, hf1, hgn, hks, hkr, hgk, hno, hok, hbad, h1⟩ := hJw
      obtain ⟨f2, rfl⟩ : ∃ f2, f1 = f2 + 1 := by
        cases f1 with
        | zero => simp [bodyL] at hno
        | succ f2 => exact ⟨f2, rfl⟩
      simp only [bodyL] at hno hok hbad
      simp only [↓E2]
      refine c_kind hl1 hT1 h1 ?_
      simp only [↓E1, ↓E2, ↓E3]
      rw [cnd_dec]
      constructor
      · intro hk
        have hb : Nat.beq (kd l1) k = true := by
          have : kd l1 = k := by omega
          rw [this]; exact Nat.beq_refl _
        rw [hb] at hok
        simp only [cond_true] at hok
        exact done _ hg1 hT1 hl1 hgn hkr hgk h1 (hok _ _ rfl)
      intro hk
      have hb : Nat.beq (kd l1) k = false := by
        cases hb : Nat.beq (kd l1) k with
        | false => rfl
        | true => exact absurd (by have := Nat.eq_of_beq_eq_true hb; omega) hk
      rw [hb] at hno hok hbad
      simp only [cond_false] at hno hok hbad
      refine (ih f2 (by omega)).stmt hd40 hl1 hT1 h1 (andThen_not_out hno) (fun n last l2 hr => ?_) (fun q' e hq' => ?_)
      rotate_left
      · rw [hq'] at hbad
        intro g3 v3 d3 w3 hg3 h3
        exact hbad _ _ rfl g3 v3 d3 _ w3 (hg1.trans hg3) rfl (Sat.drop2 (A := hpn) (Sat.drop2 (A := hpk) h3))
      rw [hr] at hno hok hbad
      simp only [andThen_eq_ok] at hno hok hbad
      have hlt := ((prog f2).stmt hr).1
      intro g2 c v2 w2 hg2 hc hT2 hl2 h2
      simp only [↓E2, ↓E3]
      refine h2.al fun b6 w3 h3 => ?_
      refine st_box (c2 := zN) h3 hc.len rfl hc.one fun w4 h4 => ?_
      have h5 := h4.drew
      obtain ⟨a, cp, rfl⟩ := hgk.slice
      simp only [↓h5.ld2, ↓E1, ↓E2, ↓E3, Nat.reduceAdd, Nat.reduceLT]
      have pre : ∀ (K : Value → Value → World → Prop), (∀ (v' : Value) (hp2 : Hp) (w' : World), Grow 50 6 v' (kids.length + 1) (kcs.flatten ++ zN) hp2 → Sat g2 w' (hp2 ++ ((nb, box [i64 (kd0 : Int), str t, i64 (q : Int), i64 (nn : Int), nv, .slice a kids.length cp]) :: (b6, box c) :: (p, prs v2 d) :: (hpn ++ H))) → K v' (.agg c.toArray) w') →
          ldn 6 (ptr b6 0) (fun t43 w => bs 50 zN 1 [(0, 6, .agg zN.toArray)] (fun t45 w => rk true (ptr b6 0) t43 (rk false (ptr nb 5) (.slice a kids.length cp) (ap 50 6 88 zN (.slice a kids.length cp) t45 (fun t46 w => K t46 t43 w) w) w) w) w) w4.drew := by
        intro K hK
        refine h5.ldn0 (c := c) hc.len.symm ?_
        refine h5.bs fillZ fun b8 w6 h6 => ?_
        refine h6.rkA (b := b6) (t := 50) (fr := (0, 0)) (c := c) (by simp) ?_
        refine h6.rk (b := nb) (t := 50) (fr := (0, 0)) (c := [i64 (kd0 : Int), str t, i64 (q : Int), i64 (nn : Int), nv, .slice a kids.length cp]) (by simp) rfl ?_
        have h7 := Sat.pull1 (A := [(b6, _), (p, _), (nb, _)]) h6
        refine Sat.ap1 (m := 1) (c := 1) h7 hgk rfl rfl rfl (by omega) (by omega) fun v' hp2 w8 hg8 h8 => ?_
        exact hK v' hp2 w8 hg8 (Sat.perm h8 (List.Perm.append_left hp2 (List.perm_middle (l₁ := [(b6, _), (p, _)]))))
      constructor
      case' left =>
        refine pre _ fun v' hp2 w8 hg8 h8 => ?_
        refine app_A hg8 zN_len hgk.len hc.len hc.one h8 fun hp3 w9 hg9 h9 => ?_
      case' right =>
        refine pre _ fun v' hp2 w8 hg8 h8 => ?_
        refine app_B hg8 zN_len hgk.len hc.len hc.one h8 fun hp3 w9 hg9 h9 => ?_
      all_goals
        have h10 : Sat g2 w9 ((p, prs v2 d) :: (nb, box [i64 (kd0 : Int), str t, i64 (q : Int), i64 (nn : Int), nv, v']) :: (hp3 ++ (hpn ++ H))) := Sat.swap2 (Sat.pull1 (A := hp3) (hp := [(p, _)]) (Sat.del (A := (nb, _) :: hp3) h9))
        have hkr2 := (hkr.mono hg2).snoc hc
        have hg10 : Grow 50 6 v' (kids ++ [n]).length (kcs ++ [c]).flatten hp3 := by simpa using hg9
        refine jn0 (fun w => ∃ v3 l3, l3 = (bif Nat.beq (kd l2) 14 then tk l2 else l2) ∧ (Nat.beq (kd l2) 14 && !last) = false ∧ TS g2 v3 l3 ∧ WFL l3 ∧ Sat g2 w ((p, prs v3 d) :: (nb, box [i64 (kd0 : Int), str t, i64 (q : Int), i64 (nn : Int), nv, v']) :: (hp3 ++ (hpn ++ H)))) ?_ ?_
        · rintro w11 ⟨v3, l3, hl3, hlast, hT3, hw3, h11⟩
          rw [hlast, ← hl3] at hok hbad
          simp only [cond_false] at hok hbad
          refine c_kind hw3 hT3 h11 ?_
          simp only [↓E1, ↓E2, ↓E3]
          rw [cnd_ndec]
          constructor
          · intro hk3
            have hb3 : Nat.beq (kd l3) k = false := by
              cases hb : Nat.beq (kd l3) k with
              | false => rfl
              | true => exact absurd (by have := Nat.eq_of_beq_eq_true hb; omega) hk3
            rw [hb3] at hbad
            simp only [cond_false, syn] at hbad
            refine c_bad hw3 hT3 h11 ?_
            exact hbad _ _ rfl g2 v3 d _ w11 (hg1.trans hg2) rfl (Sat.drop2 (A := hpn) (Sat.drop2 (A := hp3) h11))
          · intro hk3
            have hb3 : Nat.beq (kd l3) k = true := by
              have : kd l3 = k := by omega
              rw [this]; exact Nat.beq_refl _
            rw [hb3] at hok
            simp only [cond_true] at hok
            exact done _ (hg1.trans hg2) hT3 hw3 hgn hkr2 hg10 h11 (hok _ _ rfl)
        · intro k3 hk3
          refine c_kind hl2 hT2 h10 ?_
          simp only [↓E1, ↓E2, ↓E3]
          rw [cnd_dec]
          constructor
          · intro hk14
            have hb14 := kd_of (l := l2) (k := 14) hk14
            refine c_take hl2 hT2 h10 fun v3 w12 hT3 h12 => ?_
            simp only [↓E2, ↓E3]
            rw [cnd_eq]
            constructor
            · intro hlst
              rw [hb14, hlst] at hno hok hbad
              have e14 : (true && true) = true := rfl
              rw [e14] at hno hok hbad
              simp only [cond_true] at hno hok hbad
              have htk := tk_le l2
              try simp only [↓E3]
              refine ⟨(tk l2).length, by rw [hJ]; exact ⟨rfl, rfl, by rw [hJ0]; exact ⟨g2, tk l2, v3, kids ++ [n], kcs ++ [c], v', hp3, names, nv, hpn, f2, hg1.trans hg2, hT3, hl2.tk, rfl, by omega, hgn, by simp only [List.length_append, List.length_cons, List.length_nil]; omega, hkr2, hg10, hno, hok, hbad, h12⟩⟩⟩
            · intro hlst
              try simp only [↓E3]
              refine hk3 _ ⟨v3, tk l2, by rw [hb14]; rfl, by rw [hb14, hlst]; rfl, hT3, hl2.tk, h12⟩
          · intro hk14
            have hb14 := kd_not (l := l2) (k := 14) hk14
            try simp only [↓E3]
            refine hk3 _ ⟨v2, l2, by rw [hb14]; rfl, by rw [hb14]; rfl, hT2, hl2, h10⟩
    · intro k2 hk2
      simp only [↓E2]
      refine c_kind hl hT hS ?_
      simp only [↓E1, ↓E2, ↓E3]
      rw [cnd_dec]
      constructor
      rotate_left
      · intro hk
        have hb := kd_not (l := l) (k := 12) hk
        rw [hb] at hno0 hok0 hbad0
        simp only [cond_false] at hno0 hok0 hbad0
        exact hk2 _ ⟨l.length, by rw [hJ0]; exact ⟨g, l, v, [], [], _, [], names0, nv0, hpn0, f, .refl g, hT, hl, rfl, Nat.le_refl _, hgn0, by simp; omega, .nil, .nil, hno0, hok0, hbad0, hS⟩⟩
      intro hk
      have hb := kd_of (l := l) (k := 12) hk
      rw [hb] at hno0 hok0 hbad0
      simp only [cond_true] at hno0 hok0 hbad0
      have htl := tk_le l
      refine c_take hl hT hS fun v1 w1 hT1 h1 => ?_
      simp only [↓E3]
      refine lp0 (fun m w => ∃ g1 l1 v1 names nv hpn f1, g.le g1 ∧ TS g1 v1 l1 ∧ WFL l1 ∧ m = l1.length ∧ f1 ≤ f ∧ names.length + l1.length ≤ 5000 ∧ Grow Ty.string 1 nv names.length (names.map str) hpn ∧
        bodyN f1 d k (.mk kd0 t q nn names []) l1 ≠ .out ∧ (∀ n' l', bodyN f1 d k (.mk kd0 t q nn names []) l1 = .ok n' l' → OkD g R p nb d H n' l') ∧ (∀ q' e, bodyN f1 d k (.mk kd0 t q nn names []) l1 = .bad q' e → BadD g R p nb H q' e) ∧
        Sat g1 w ((p, prs v1 d) :: (nb, box [i64 (kd0 : Int), str t, i64 (q : Int), i64 (nn : Int), nv, .slice none 0 0]) :: (hpn ++ H))) rfl (tk l).length
        ⟨g, tk l, v1, names0, nv0, hpn0, f, .refl g, hT1, hl.tk, rfl, Nat.le_refl _, by omega, hgn0, hno0, hok0, hbad0, h1⟩ ?_
      rintro m w2 ⟨g1, l1, v1, names, nv, hpn, f1, hg1, hT1, hl1, rfl, hf1, hnl1, hgn, hno, hok, hbad, h2⟩
      obtain ⟨f2, rfl⟩ : ∃ f2, f1 = f2 + 1 := by
        cases f1 with
        | zero => simp [bodyN] at hno
        | succ f2 => exact ⟨f2, rfl⟩
      simp only [bodyN] at hno hok hbad
      refine c_kind hl1 hT1 h2 ?_
      simp only [↓E1, ↓E2, ↓E3]
      rw [cnd_dec]
      constructor
      · intro hk1
        have hb1 := kd_of (l := l1) (k := 1) hk1
        rw [hb1] at hno hok hbad
        simp only [cond_true, addName, Node.kind, Node.text, Node.pos, Node.n, Node.names, Node.kids] at hno hok hbad
        have hlt := tk_lt hb1 (by decide)
        have h3 := h2.drew
        simp only [↓h3.ld1, ↓E3, Nat.reduceAdd, Nat.reduceLT]
        refine c_take hl1 hT1 h3 fun v2 w4 hT2 h4 => ?_
        simp only [↓E3, fl_tok]
        refine h4.rk (b := nb) (t := 50) (fr := (0, 0)) (c := [i64 (kd0 : Int), str t, i64 (q : Int), i64 (nn : Int), nv, .slice none 0 0]) (by simp) rfl ?_
        refine h4.bs (cs := [str (hd l1).text]) rfl fun b8 w5 h5 => ?_
        refine h5.rk (b := nb) (t := 50) (fr := (0, 0)) (c := [i64 (kd0 : Int), str t, i64 (q : Int), i64 (nn : Int), nv, .slice none 0 0]) (by simp) rfl ?_
        have h6 := Sat.pull1 (A := [(p, _), (nb, _)]) h5
        refine Sat.ap1 (m := 1) (c := 1) h6 hgn rfl rfl rfl (by omega) (by omega) fun nv' hp2 w7 hg7 h7 => ?_
        have h8 := Sat.swap2 (Sat.pull (A := hp2) (hp := [(p, _), (nb, _)]) h7)
        refine Sat.st h8 (by rcases hg7.inv with ⟨rfl, _⟩ | ⟨_, _, _, rfl, _⟩ <;> rfl) (by simp) (by rcases hg7.inv with ⟨rfl, _⟩ | ⟨_, _, _, rfl, _⟩ <;> rfl) fun w9 h9 => ?_
        have e : wr [i64 (kd0 : Int), str t, i64 (q : Int), i64 (nn : Int), nv, .slice none 0 0].toArray 4 nv'.cells.toList = [i64 (kd0 : Int), str t, i64 (q : Int), i64 (nn : Int), nv', .slice none 0 0].toArray := by
          rcases hg7.inv with ⟨rfl, _⟩ | ⟨_, _, _, rfl, _⟩ <;> rfl
        rw [e] at h9
        refine ⟨(tk l1).length, hlt, trivial, g1, tk l1, v2, names ++ [(hd l1).text], nv', hp2, f2, hg1, hT2, hl1.tk, rfl, by omega, ?_, ?_, hno, hok, hbad, h9.swap2⟩
        · simp only [List.length_append, List.length_cons, List.length_nil]; omega
        · simpa using hg7
      · intro hk1
        have hb1 := kd_not (l := l1) (k := 1) hk1
        rw [hb1] at hno hok hbad
        simp only [cond_false] at hno hok hbad
        have htl1 := tk_le l1
        refine c_need (k := 12) hl1 hT1 h2 (fun v2 w4 hn hT2 h4 => ?_) (fun w4 hn h4 => ?_)
        · rw [hn] at hno hok hbad
          simp only [andThen_eq_ok] at hno hok hbad
          simp only [↓E3]
          exact hk2 _ ⟨(tk l1).length, by rw [hJ0]; exact ⟨g1, tk l1, v2, [], [], _, [], names, nv, hpn, f2, hg1, hT2, hl1.tk, rfl, by omega, hgn, by simp; omega, .nil, .nil, hno, hok, hbad, h4⟩⟩
        · rw [hn] at hbad
          exact hbad _ _ rfl g1 v1 d _ w4 hg1 rfl (Sat.drop2 (A := hpn) h4)
  · intro pr hpr m0
    simp only [List.mem_singleton] at hpr
    subst hpr
    intro w0 hJw
    rw [hJ] at hJw
    obtain ⟨_, _, hJw⟩ := hJw
    rw [hJ0] at hJw
    obtain ⟨g1, l1, v1, kids, kcs, kv, hpk, names, nv, hpn, f1, hg1, hT1, hl1, rfl, hf1, hgn, hks, hkr, hgk, hno, hok, hbad, h1⟩ := hJw
    obtain ⟨f2, rfl⟩ : ∃ f2, f1 = f2 + 1 := by
      cases f1 with
      | zero => simp [bodyL] at hno
      | succ f2 => exact ⟨f2, rfl⟩
    simp only [bodyL] at hno hok hbad
    simp only [↓E2]
    refine c_kind hl1 hT1 h1 ?_
    simp only [↓E1, ↓E2, ↓E3]
    rw [cnd_dec]
    constructor
    · intro hk
      have hb : Nat.beq (kd l1) k = true := by
        have : kd l1 = k := by omega
        rw [this]; exact Nat.beq_refl _
      rw [hb] at hok
      simp only [cond_true] at hok
      exact done _ hg1 hT1 hl1 hgn hkr hgk h1 (hok _ _ rfl)
    intro hk
    have hb : Nat.beq (kd l1) k = false := by
      cases hb : Nat.beq (kd l1) k with
      | false => rfl
      | true => exact absurd (by have := Nat.eq_of_beq_eq_true hb; omega) hk
    rw [hb] at hno hok hbad
    simp only [cond_false] at hno hok hbad
    refine (ih f2 (by omega)).stmt hd40 hl1 hT1 h1 (andThen_not_out hno) (fun n last l2 hr => ?_) (fun q' e hq' => ?_)
    rotate_left
    · rw [hq'] at hbad
      intro g3 v3 d3 w3 hg3 h3
      exact hbad _ _ rfl g3 v3 d3 _ w3 (hg1.trans hg3) rfl (Sat.drop2 (A := hpn) (Sat.drop2 (A := hpk) h3))
    rw [hr] at hno hok hbad
    simp only [andThen_eq_ok] at hno hok hbad
    have hlt := ((prog f2).stmt hr).1
    intro g2 c v2 w2 hg2 hc hT2 hl2 h2
    simp only [↓E2, ↓E3]
    refine h2.al fun b6 w3 h3 => ?_
    refine st_box (c2 := zN) h3 hc.len rfl hc.one fun w4 h4 => ?_
    have h5 := h4.drew
    obtain ⟨a, cp, rfl⟩ := hgk.slice
    simp only [↓h5.ld2, ↓E1, ↓E2, ↓E3, Nat.reduceAdd, Nat.reduceLT]
    have pre : ∀ (K : Value → Value → World → Prop), (∀ (v' : Value) (hp2 : Hp) (w' : World), Grow 50 6 v' (kids.length + 1) (kcs.flatten ++ zN) hp2 → Sat g2 w' (hp2 ++ ((nb, box [i64 (kd0 : Int), str t, i64 (q : Int), i64 (nn : Int), nv, .slice a kids.length cp]) :: (b6, box c) :: (p, prs v2 d) :: (hpn ++ H))) → K v' (.agg c.toArray) w') →
        ldn 6 (ptr b6 0) (fun t43 w => bs 50 zN 1 [(0, 6, .agg zN.toArray)] (fun t45 w => rk true (ptr b6 0) t43 (rk false (ptr nb 5) (.slice a kids.length cp) (ap 50 6 88 zN (.slice a kids.length cp) t45 (fun t46 w => K t46 t43 w) w) w) w) w) w4.drew := by
      intro K hK
      refine h5.ldn0 (c := c) hc.len.symm ?_
      refine h5.bs fillZ fun b8 w6 h6 => ?_
      refine h6.rkA (b := b6) (t := 50) (fr := (0, 0)) (c := c) (by simp) ?_
      refine h6.rk (b := nb) (t := 50) (fr := (0, 0)) (c := [i64 (kd0 : Int), str t, i64 (q : Int), i64 (nn : Int), nv, .slice a kids.length cp]) (by simp) rfl ?_
      have h7 := Sat.pull1 (A := [(b6, _), (p, _), (nb, _)]) h6
      refine Sat.ap1 (m := 1) (c := 1) h7 hgk rfl rfl rfl (by omega) (by omega) fun v' hp2 w8 hg8 h8 => ?_
      exact hK v' hp2 w8 hg8 (Sat.perm h8 (List.Perm.append_left hp2 (List.perm_middle (l₁ := [(b6, _), (p, _)]))))
    constructor
    case' left =>
      refine pre _ fun v' hp2 w8 hg8 h8 => ?_
      refine app_A hg8 zN_len hgk.len hc.len hc.one h8 fun hp3 w9 hg9 h9 => ?_
    case' right =>
      refine pre _ fun v' hp2 w8 hg8 h8 => ?_
      refine app_B hg8 zN_len hgk.len hc.len hc.one h8 fun hp3 w9 hg9 h9 => ?_
    all_goals
      have h10 : Sat g2 w9 ((p, prs v2 d) :: (nb, box [i64 (kd0 : Int), str t, i64 (q : Int), i64 (nn : Int), nv, v']) :: (hp3 ++ (hpn ++ H))) := Sat.swap2 (Sat.pull1 (A := hp3) (hp := [(p, _)]) (Sat.del (A := (nb, _) :: hp3) h9))
      have hkr2 := (hkr.mono hg2).snoc hc
      have hg10 : Grow 50 6 v' (kids ++ [n]).length (kcs ++ [c]).flatten hp3 := by simpa using hg9
      refine jn0 (fun w => ∃ v3 l3, l3 = (bif Nat.beq (kd l2) 14 then tk l2 else l2) ∧ (Nat.beq (kd l2) 14 && !last) = false ∧ TS g2 v3 l3 ∧ WFL l3 ∧ Sat g2 w ((p, prs v3 d) :: (nb, box [i64 (kd0 : Int), str t, i64 (q : Int), i64 (nn : Int), nv, v']) :: (hp3 ++ (hpn ++ H)))) ?_ ?_
      · rintro w11 ⟨v3, l3, hl3, hlast, hT3, hw3, h11⟩
        rw [hlast, ← hl3] at hok hbad
        simp only [cond_false] at hok hbad
        refine c_kind hw3 hT3 h11 ?_
        simp only [↓E1, ↓E2, ↓E3]
        rw [cnd_ndec]
        constructor
        · intro hk3
          have hb3 : Nat.beq (kd l3) k = false := by
            cases hb : Nat.beq (kd l3) k with
            | false => rfl
            | true => exact absurd (by have := Nat.eq_of_beq_eq_true hb; omega) hk3
          rw [hb3] at hbad
          simp only [cond_false, syn] at hbad
          refine c_bad hw3 hT3 h11 ?_
          exact hbad _ _ rfl g2 v3 d _ w11 (hg1.trans hg2) rfl (Sat.drop2 (A := hpn) (Sat.drop2 (A := hp3) h11))
        · intro hk3
          have hb3 : Nat.beq (kd l3) k = true := by
            have : kd l3 = k := by omega
            rw [this]; exact Nat.beq_refl _
          rw [hb3] at hok
          simp only [cond_true] at hok
          exact done _ (hg1.trans hg2) hT3 hw3 hgn hkr2 hg10 h11 (hok _ _ rfl)
      · intro k3 hk3
        refine c_kind hl2 hT2 h10 ?_
        simp only [↓E1, ↓E2, ↓E3]
        rw [cnd_dec]
        constructor
        · intro hk14
          have hb14 := kd_of (l := l2) (k := 14) hk14
          refine c_take hl2 hT2 h10 fun v3 w12 hT3 h12 => ?_
          simp only [↓E2, ↓E3]
          rw [cnd_eq]
          constructor
          · intro hlst
            rw [hb14, hlst] at hno hok hbad
            have e14 : (true && true) = true := rfl
            rw [e14] at hno hok hbad
            simp only [cond_true] at hno hok hbad
            have htk := tk_le l2
            try simp only [↓E3]
            refine ⟨(tk l2).length, by omega, by rw [hJ]; exact ⟨rfl, rfl, by rw [hJ0]; exact ⟨g2, tk l2, v3, kids ++ [n], kcs ++ [c], v', hp3, names, nv, hpn, f2, hg1.trans hg2, hT3, hl2.tk, rfl, by omega, hgn, by simp only [List.length_append, List.length_cons, List.length_nil]; omega, hkr2, hg10, hno, hok, hbad, h12⟩⟩⟩
          · intro hlst
            try simp only [↓E3]
            refine hk3 _ ⟨v3, tk l2, by rw [hb14]; rfl, by rw [hb14, hlst]; rfl, hT3, hl2.tk, h12⟩
        · intro hk14
          have hb14 := kd_not (l := l2) (k := 14) hk14
          try simp only [↓E3]
          refine hk3 _ ⟨v2, l2, by rw [hb14]; rfl, by rw [hb14]; rfl, hT2, hl2, h10⟩
end Go.Vx
namespace Go.Vx
open Go Go.Proofs
variable {R : Ending → World → Prop} {g : G} {w : World} {H hp T : Hp}

theorem k_blk {f : Nat} (ihb : ∀ f' ≤ f, CBody f') : CN F.tree_parser_block (blk (f + 1)) := by
  intro p d l v g w H R hd40 hl hT hS hno hok hbad
  simp only [blk] at hno hok hbad
  apply t_tree_parser_block
  unfold d_tree_parser_block
  rw [pcells]
  refine hS.al fun b1 w1 h1 => h1.al fun b2 w2 h2 => ?_
  have h3 : Sat g w2 ((p, prs v d) :: (b2, box zN) :: (b1, pbx p) :: H) := h2.perm (List.perm_middle (l₁ := [(b2, _), (b1, _)]))
  simp only [↓E1, ↓E2, ↓E3, ↓h3.ld2, ↓h3.ld0, Nat.reduceAdd, Nat.reduceLT]
  refine TS.at hT (j := 0) h3 hl.hd.1 fun b o _ _ c2 => ?_
  simp only [↓E1]
  rw [h3.ldI c2]
  refine bdI (cs := [i64 ((10 : Nat) : Int), str [], i64 ((hd l).pos : Int), i64 ((0 : Nat) : Int), .slice none 0 0, .slice none 0 0]) rfl ?_
  refine h3.al fun b3 w4 h4 => ?_
  refine st_box (c2 := zN) h4 rfl rfl rfl fun w5 h5 => ?_
  have h6 := h5.swap2
  rw [h6.ld3 0 _ (by simp)]
  simp only [List.getD_cons_zero]
  refine c_within hd40 hl hT h6 (fun h40 w7 h7 => ?_) (fun h40 v2 w7 hT2 h7 => ?_)
  · have hw : within d l (fun d l1 => blkN f d (hd l).pos [] l1) = .bad (hd l).pos 3 := by unfold within; rw [h40]; rfl
    exact bad_syn ((hbad _ _ hw).drop.drop.drop) h7
  have hw : within d l (fun d l1 => blkN f d (hd l).pos [] l1) = blkN f (d + 1) (hd l).pos [] (tk l) := by unfold within; rw [h40]; rfl
  rw [hw] at hno hok hbad
  have hd39 : d + 1 ≤ 40 := by
    have : d ≠ 40 := fun e => by rw [e] at h40; simp at h40
    omega
  have hl97 := hl.len
  have htl := tk_le l
  show Tr P F.tree_parser_block_1 [ptr b1 0, ptr b3 0] w7 _
  generalize hRR : (fun (e : Ending) (w2 : World) => match e with
      | .returned _ => ∃ g2 v2 H2, Sat g2 w2 ((p, prs v2 (d + 1)) :: H2) ∧ ∀ w3, Sat g2 w3 ((p, prs v2 d) :: H2) → Vx.back (fun _ w => ldn 6 (ptr b3 0) (fun t15 w => st 6 (ptr b2 0) t15 (fun w => ldn 6 (ptr b2 0) (fun r0 w => R (.returned r0) w) w) w) w) (fun ch w => R (.panicked ch) w) (.returned (.tuple #[])) w3
      | .panicked ch => Vx.back (fun _ w => ldn 6 (ptr b3 0) (fun t15 w => st 6 (ptr b2 0) t15 (fun w => ldn 6 (ptr b2 0) (fun r0 w => R (.returned r0) w) w) w) w) (fun ch w => R (.panicked ch) w) (.panicked ch) w2
      | .outgrown => False : Ending → World → Prop) = RR
  have hRp : ∀ ch w, R (.panicked ch) w → RR (.panicked ch) w := by intro ch w h; rw [← hRR]; exact h
  have hRo : ∀ {n : Node} {l' : List Tok} {g2 : G} {c : List Value} {v2 : Value} {w : World}, OkN g R p d H n l' → g.le g2 → NodeR g2 c n → TS g2 v2 l' → WFL l' → Sat g2 w ((p, prs v2 (d + 1)) :: (b3, box c) :: (b2, box zN) :: (b1, pbx p) :: H) → RR (.returned (.tuple #[])) w := by
    intro n l' g2 c v2 w hk hg2 hc hT2 hl2 h
    rw [← hRR]
    refine ⟨g2, v2, _, h, fun w12 h12 => ?_⟩
    have h13 : Sat g2 w12 ((b3, box c) :: (b2, box zN) :: (p, prs v2 d) :: H) :=
      Sat.perm (Sat.del (A := [(p, _), (b3, _), (b2, _)]) h12) (List.perm_middle (l₁ := [(b3, _), (b2, _)])).symm
    refine ret_box h13 hc.len rfl hc.one fun w14 h14 => ?_
    exact hk g2 c v2 w14 hg2 hc hT2 hl2 h14
  apply t_tree_parser_block_1
  unfold d_tree_parser_block_1
  have h7 : Sat g w7 ((p, prs v2 (d + 1)) :: (b3, box [i64 ((10 : Nat) : Int), str [], i64 ((hd l).pos : Int), i64 ((0 : Nat) : Int), .slice none 0 0, .slice none 0 0]) :: ([] ++ ((b2, box zN) :: (b1, pbx p) :: H))) := h7
  refine lp0 (fun m w => ∃ g2 l2 v2 names nv hp f1, g.le g2 ∧ TS g2 v2 l2 ∧ WFL l2 ∧ m = l2.length ∧ f1 ≤ f ∧ names.length + l2.length ≤ 5000 ∧ Grow Ty.string 1 nv names.length (names.map str) hp ∧
    blkN f1 (d + 1) (hd l).pos names l2 ≠ .out ∧ (∀ n l', blkN f1 (d + 1) (hd l).pos names l2 = .ok n l' → OkN g R p d H n l') ∧ (∀ q' e, blkN f1 (d + 1) (hd l).pos names l2 = .bad q' e → Bad g R p H q' e) ∧
    Sat g2 w ((p, prs v2 (d + 1)) :: (b3, box [i64 ((10 : Nat) : Int), str [], i64 ((hd l).pos : Int), i64 ((0 : Nat) : Int), nv, .slice none 0 0]) :: (hp ++ ((b2, box zN) :: (b1, pbx p) :: H)))) rfl (tk l).length
    ⟨g, tk l, v2, [], _, [], f, .refl g, hT2, hl.tk, rfl, Nat.le_refl _, by simp; omega, .nil, hno, hok, hbad, h7⟩ ?_
  clear h7 h6 h5 h4 h3 h2 h1 hno hok hbad hw
  rintro m w8 ⟨g2, l2, v3, names, nv, hp, f1, hg2, hT3, hl2, rfl, hf1, hks, hgr, hno, hok, hbad, h8⟩
  obtain ⟨f2, rfl⟩ : ∃ f2, f1 = f2 + 1 := by
    cases f1 with
    | zero => simp [blkN] at hno
    | succ f2 => exact ⟨f2, rfl⟩
  simp only [blkN] at hno hok hbad
  have ldp : ∀ {g : G} {w : World} {d : Nat} {v : Value} {c : List Value} {hp : Hp} (h : Sat g w ((p, prs v d) :: (b3, box c) :: (hp ++ ((b2, box zN) :: (b1, pbx p) :: H)))) (K : Value → World → Prop), ld (ptr b1 0) K w = K (ptr p 0) w :=
    fun h K => h.ldH (b := b1) (c := [ptr p 0]) (t := Ty.p_tree_parser) (fr := (0, 0)) (by simp) 0 K (by simp)
  have dropH : ∀ {g : G} {w : World} {d : Nat} {v : Value} {x : Obj} {hp : Hp}, Sat g w ((p, prs v d) :: (b3, x) :: (hp ++ ((b2, box zN) :: (b1, pbx p) :: H))) → Sat g w ((p, prs v d) :: H) :=
    fun {_ _ _ _ _ hp} h => Sat.drop1 (A := [(b2, _), (b1, _)]) (Sat.drop1 (A := (b3, _) :: hp) h)
  rw [ldp h8]
  simp only [↓E2]
  refine c_kind hl2 hT3 h8 ?_
  simp only [↓E1, ↓E2, ↓E3]
  rw [cnd_dec]
  constructor
  · intro hk
    have hb := kd_of (l := l2) (k := 16) hk
    rw [hb] at hno hok hbad
    simp only [cond_true] at hno hok hbad
    have hlt := tk_lt hb (by decide)
    have htl2 := tk_le (tk l2)
    rw [ldp h8]
    refine c_take hl2 hT3 h8 fun v4 w9 hT4 h9 => ?_
    have h10 := h9.drew
    simp only [↓h10.ld1, ldp h10, ↓E3, Nat.reduceAdd, Nat.reduceLT]
    refine c_need (k := 1) hl2.tk hT4 h10 (fun v5 w11 hn hT5 h11 => ?_) (fun w11 hn h11 => ?_)
    · rw [hn] at hno hok hbad
      simp only [andThen_eq_ok] at hno hok hbad
      simp only [↓E3, fl_tok]
      refine h11.rk (b := b3) (t := 50) (fr := (0, 0)) (c := [i64 ((10 : Nat) : Int), str [], i64 ((hd l).pos : Int), i64 ((0 : Nat) : Int), nv, .slice none 0 0]) (by simp) rfl ?_
      refine h11.bs (cs := [str (hd (tk l2)).text]) rfl fun b8 w12 h12 => ?_
      refine h12.rk (b := b3) (t := 50) (fr := (0, 0)) (c := [i64 ((10 : Nat) : Int), str [], i64 ((hd l).pos : Int), i64 ((0 : Nat) : Int), nv, .slice none 0 0]) (by simp) rfl ?_
      have h13 := Sat.pull1 (A := [(p, _), (b3, _)]) h12
      refine Sat.ap1 (m := 1) (c := 1) h13 hgr rfl rfl rfl (by omega) (by omega) fun nv' hp2 w14 hg14 h14 => ?_
      have h15 := Sat.swap2 (Sat.pull (A := hp2) (hp := [(p, _), (b3, _)]) h14)
      refine Sat.st h15 (by rcases hg14.inv with ⟨rfl, _⟩ | ⟨_, _, _, rfl, _⟩ <;> rfl) (by simp) (by rcases hg14.inv with ⟨rfl, _⟩ | ⟨_, _, _, rfl, _⟩ <;> rfl) fun w16 h16 => ?_
      have e : wr [i64 ((10 : Nat) : Int), str [], i64 ((hd l).pos : Int), i64 ((0 : Nat) : Int), nv, .slice none 0 0].toArray 4 nv'.cells.toList = [i64 ((10 : Nat) : Int), str [], i64 ((hd l).pos : Int), i64 ((0 : Nat) : Int), nv', .slice none 0 0].toArray := by
        rcases hg14.inv with ⟨rfl, _⟩ | ⟨_, _, _, rfl, _⟩ <;> rfl
      rw [e] at h16
      refine ⟨(tk (tk l2)).length, by omega, trivial, g2, tk (tk l2), v5, names ++ [(hd (tk l2)).text], nv', hp2, f2, hg2, hT5, hl2.tk.tk, rfl, by omega, ?_, ?_, hno, hok, hbad, h16.swap2⟩
      · simp only [List.length_append, List.length_cons, List.length_nil]; omega
      · simpa using hg14
    · rw [hn] at hbad
      exact hRp _ _ (hbad _ _ rfl g2 v4 (d + 1) w11 hg2 (dropH h11))
  · intro hk
    have hb := kd_not (l := l2) (k := 16) hk
    rw [hb] at hno hok hbad
    simp only [cond_false] at hno hok hbad
    -- the body, and the last word
    have fin : ∀ {l3 : List Tok} {v4 : Value} {w9 : World}, TS g2 v4 l3 → WFL l3 → l3.length ≤ l2.length → Sat g2 w9 ((p, prs v4 (d + 1)) :: (b3, box [i64 ((10 : Nat) : Int), str [], i64 ((hd l).pos : Int), i64 (names.length : Int), nv, .slice none 0 0]) :: (hp ++ ((b2, box zN) :: (b1, pbx p) :: H))) →
        ((body f2 (d + 1) 11 (.mk 10 [] (hd l).pos names.length names []) l3).andThen fun n l2 => Res.ok n (tk l2)) ≠ .out → (∀ n l', ((body f2 (d + 1) 11 (.mk 10 [] (hd l).pos names.length names []) l3).andThen fun n l2 => Res.ok n (tk l2)) = .ok n l' → OkN g R p d H n l') →
        (∀ q' e, ((body f2 (d + 1) 11 (.mk 10 [] (hd l).pos names.length names []) l3).andThen fun n l2 => Res.ok n (tk l2)) = .bad q' e → Bad g R p H q' e) →
        ld (ptr b1 0) (fun t29 w => Tr P F.tree_parser_body [t29, ptr b3 0, i64 11] w (Vx.back (fun _ w => ld (ptr b1 0) (fun t31 w => Tr P F.tree_parser_take [t31] w (Vx.back (fun _ w => RR (.returned (.tuple #[])) w) (fun ch w => RR (.panicked ch) w))) w) (fun ch w => RR (.panicked ch) w))) w9 := by
      intro l3 v4 w9 hT4 hl3 hle h9 hno hok hbad
      rw [ldp h9]
      refine ihb f2 (by omega) (k := 11) hd39 hl3 hT4 (by omega) hgr h9 (andThen_not_out hno) (fun n l4 hr => ?_) (fun q' e hq => ?_)
      · rw [hr] at hok
        simp only [andThen_eq_ok] at hok
        intro g3 c v5 w10 hg3 hc hT5 hl5 h10
        simp only [↓E3]
        rw [ldp (hp := []) h10]
        refine c_take hl5 hT5 h10 fun v6 w11 hT6 h11 => ?_
        simp only [↓E3]
        exact hRo (hok _ _ rfl) (hg2.trans hg3) hc hT6 hl5.tk h11
      · rw [hq] at hbad
        intro g3 v5 d5 x w10 hg3 _ h10
        exact hRp _ _ (hbad _ _ rfl g3 v5 d5 w10 (hg2.trans hg3) (Sat.drop1 (A := [(b3, _), (b2, _), (b1, _)]) h10))
    obtain ⟨a, cp, rfl⟩ := hgr.slice
    simp only [↓h8.ld1, ↓E1, ↓E2, ↓E3, Nat.reduceAdd, Nat.reduceLT]
    refine h8.swap2.st rfl (by simp) rfl fun w9 h9 => ?_
    have h9 : Sat g2 w9 ((p, prs v3 (d + 1)) :: (b3, box [i64 ((10 : Nat) : Int), str [], i64 ((hd l).pos : Int), i64 (names.length : Int), .slice a names.length cp, .slice none 0 0]) :: (hp ++ ((b2, box zN) :: (b1, pbx p) :: H))) := Sat.swap2 h9
    simp only [↓h9.ld1, ↓E1, ↓E2, ↓E3, Nat.reduceAdd, Nat.reduceLT]
    rw [cnd_dec]
    constructor
    · intro hpos
      have hb0 : Nat.blt 0 names.length = true := by rw [Nat.blt_eq]; omega
      rw [hb0, Bool.true_and] at hno hok hbad
      rw [ldp h9]
      refine c_kind hl2 hT3 h9 ?_
      simp only [↓E1, ↓E2, ↓E3]
      rw [cnd_ndec]
      constructor
      · intro hk11
        have hb11 := kd_not (l := l2) (k := 11) hk11
        rw [hb11] at hno hok hbad
        simp only [Bool.not_false, cond_true] at hno hok hbad
        have htl2 := tk_le l2
        rw [ldp h9]
        refine c_need (k := 12) hl2 hT3 h9 (fun v4 w10 hn hT4 h10 => ?_) (fun w10 hn h10 => ?_)
        · rw [hn] at hno hok hbad
          simp only [andThen_eq_ok] at hno hok hbad
          simp only [↓E3]
          exact fin hT4 hl2.tk htl2 h10 hno hok hbad
        · rw [hn] at hbad
          exact hRp _ _ (hbad _ _ rfl g2 v3 (d + 1) w10 hg2 (dropH h10))
      · intro hk11
        have hb11 := kd_of (l := l2) (k := 11) hk11
        rw [hb11] at hno hok hbad
        simp only [Bool.not_true, cond_false] at hno hok hbad
        exact fin hT3 hl2 (Nat.le_refl _) h9 hno hok hbad
    · intro hpos
      have hb0 : Nat.blt 0 names.length = false := by
        cases hb : Nat.blt 0 names.length with
        | false => rfl
        | true => rw [Nat.blt_eq] at hb; omega
      rw [hb0, Bool.false_and] at hno hok hbad
      simp only [cond_false] at hno hok hbad
      exact fin hT3 hl2 (Nat.le_refl _) h9 hno hok hbad
end Go.Vx
namespace Go.Vx
open Go Go.Proofs
variable {R : Ending → World → Prop} {g : G} {w : World} {H hp T : Hp}

theorem k_prim {f : Nat} (ih : ∀ f' ≤ f, AllOK f') : CB F.tree_parser_primary (prim (f + 1)) := by
  intro p d l v g w H R hd40 hl hT hS hno hok hbad
  simp only [prim] at hno hok hbad
  apply t_tree_parser_primary
  unfold d_tree_parser_primary
  rw [pcells]
  refine hS.al fun b1 w1 h1 => h1.al fun b2 w2 h2 => ?_
  have h3 : Sat g w2 ((p, prs v d) :: (b2, box zN) :: (b1, pbx p) :: H) := h2.perm (List.perm_middle (l₁ := [(b2, _), (b1, _)]))
  simp only [↓E1, ↓E2, ↓E3, ↓h3.ld2, ↓h3.ld0, Nat.reduceAdd, Nat.reduceLT]
  refine hT.ldHd hl h3 ?_
  refine h3.al fun b4 w4 h4 => ?_
  refine h4.st (c := [i64 0, str [], i64 0]) rfl (by simp) rfl fun w5 h5 => ?_
  have h5 : Sat g w5 ((b4, tbx (hd l)) :: (p, prs v d) :: (b2, box zN) :: (b1, pbx p) :: H) := h5
  simp only [↓E1, Nat.reduceAdd]
  rw [h5.ld0 1 _ (by simp [tokCells])]
  rw [h5.ld0 2 _ (by simp [tokCells])]
  refine bdI (cs := [i64 ((0 : Nat) : Int), str (hd l).text, i64 ((hd l).pos : Int), i64 ((0 : Nat) : Int), .slice none 0 0, .slice none 0 0]) rfl ?_
  refine h5.al fun b5 w6 h6 => ?_
  refine st_box (c2 := zN) h6 rfl rfl rfl fun w7 h7 => ?_
  have h8 : Sat g w7 ((p, prs v d) :: (b5, box [i64 ((0 : Nat) : Int), str (hd l).text, i64 ((hd l).pos : Int), i64 ((0 : Nat) : Int), .slice none 0 0, .slice none 0 0]) :: (b4, tbx (hd l)) :: (b2, box zN) :: (b1, pbx p) :: H) :=
    h7.perm (List.perm_middle (l₁ := [(b5, _), (b4, _)]))
  clear h1 h2 h3 h4 h5 h6 h7
  have ldp : ∀ {g : G} {w : World} {d : Nat} {v : Value} {c : List Value} (h : Sat g w ((p, prs v d) :: (b5, box c) :: (b4, tbx (hd l)) :: (b2, box zN) :: (b1, pbx p) :: H)) (K : Value → World → Prop), ld (ptr b1 0) K w = K (ptr p 0) w :=
    fun h K => h.ldH (b := b1) (c := [ptr p 0]) (t := Ty.p_tree_parser) (fr := (0, 0)) (by simp) 0 K (by simp)
  -- at the end
  have fin : ∀ {g1 : G} {v1 : Value} {c : List Value} {w : World} {n : Node} {bb : Bool} {l' : List Tok}, OkB g R p d H n bb l' → g.le g1 → NodeR g1 c n → TS g1 v1 l' → WFL l' → Sat g1 w ((p, prs v1 d) :: (b5, box c) :: (b4, tbx (hd l)) :: (b2, box zN) :: (b1, pbx p) :: H) →
      ldn 6 (ptr b5 0) (fun t w => st 6 (ptr b2 0) t (fun w => ldn 6 (ptr b2 0) (fun r0 w => R (.returned (.tuple #[r0, .bool bb])) w) w) w) w := by
    intro g1 v1 c w n bb l' hk hg1 hc hT1 hl1 h
    have h1 := Sat.del (A := [(p, _), (b5, _), (b2, _)]) (Sat.del (A := [(p, _), (b5, _)]) h)
    have h2 := Sat.perm h1 (List.perm_middle (l₁ := [(b5, _), (b2, _)])).symm
    refine ret_box h2 hc.len rfl hc.one fun w9 h9 => ?_
    exact hk g1 c v1 w9 hg1 hc hT1 hl1 h9
  refine jn1 (fun _ w => ∃ kk, OkB g R p d H (.mk kk (hd l).text (hd l).pos 0 [] []) true (tk l) ∧ Sat g w ((p, prs v d) :: (b5, box [i64 (kk : Int), str (hd l).text, i64 ((hd l).pos : Int), i64 ((0 : Nat) : Int), .slice none 0 0, .slice none 0 0]) :: (b4, tbx (hd l)) :: (b2, box zN) :: (b1, pbx p) :: H)) ?_ ?_
  · rintro x w9 ⟨kk, hk, h9⟩
    rw [ldp h9]
    try simp only [↓E2]
    refine c_take hl hT h9 fun v1 w10 hT1 h10 => ?_
    simp only [↓E3]
    exact fin hk (.refl g) (nodeR_leaf g kk _ _) hT1 hl.tk h10
  · intro k1 hk1
    simp only [↓E1, Nat.reduceAdd]
    rw [h8.ld2 0 _ (by simp [tokCells])]
    simp only [tokCells, ↓E1, ↓E2, ↓E3, Nat.reduceAdd]
    have lf : ∀ {kk : Nat} {x : Value}, OkB g R p d H (.mk kk (hd l).text (hd l).pos 0 [] []) true (tk l) → st 1 (ptr b5 0) (i64 (kk : Int)) (fun w => k1 x w) w7 := by
      intro kk x hk
      refine h8.swap2.st rfl (by simp) rfl fun w9 h9 => ?_
      exact hk1 _ _ ⟨kk, hk, Sat.swap2 h9⟩
    rw [cnd_dec]
    constructor
    · intro hk
      rw [kd_of (l := l) (k := 1) hk] at hok
      exact lf (kk := 5) (hok _ _ _ rfl)
    intro hk
    rw [kd_not (l := l) (k := 1) hk] at hno hok hbad
    simp only [cond_false] at hno hok hbad
    rw [cnd_dec]
    constructor
    · intro hk
      rw [kd_of (l := l) (k := 4) hk] at hok
      exact lf (kk := 1) (hok _ _ _ rfl)
    intro hk
    rw [kd_not (l := l) (k := 4) hk] at hno hok hbad
    simp only [cond_false] at hno hok hbad
    rw [cnd_dec]
    constructor
    · intro hk
      rw [kd_of (l := l) (k := 5) hk] at hok
      exact lf (kk := 2) (hok _ _ _ rfl)
    intro hk
    rw [kd_not (l := l) (k := 5) hk] at hno hok hbad
    simp only [cond_false] at hno hok hbad
    rw [cnd_dec]
    constructor
    · intro hk
      rw [kd_of (l := l) (k := 6) hk] at hok
      exact lf (kk := 3) (hok _ _ _ rfl)
    intro hk
    rw [kd_not (l := l) (k := 6) hk] at hno hok hbad
    simp only [cond_false] at hno hok hbad
    have sub : ∀ {fn : Nat} {spec : Nat → List Tok → Res Node}, CN fn spec → ((spec d l).andThen fun n l1 => Res.ok (n, true) l1) ≠ .out → (∀ n b l', ((spec d l).andThen fun n l1 => Res.ok (n, true) l1) = .ok (n, b) l' → OkB g R p d H n b l') → (∀ q e, ((spec d l).andThen fun n l1 => Res.ok (n, true) l1) = .bad q e → Bad g R p H q e) →
        Tr P fn [ptr p 0] w7 (Vx.back (fun t36 w => st 6 (ptr b2 0) t36 (fun w => ldn 6 (ptr b2 0) (fun r0 w => R (.returned (.tuple #[r0, .bool true])) w) w) w) (fun ch w => R (.panicked ch) w)) := by
      intro fn spec hC hno hok hbad
      refine hC hd40 hl hT h8 (andThen_not_out hno) (fun n l1 hr => ?_) (fun q e hq => ?_)
      · rw [hr] at hok
        simp only [andThen_eq_ok] at hok
        intro g1 c v1 w9 hg1 hc hT1 hl1 h9
        simp only [↓E3]
        have h10 := Sat.del (A := [(p, _)]) (Sat.del (A := [(p, _), (b5, _)]) h9)
        refine st_box (Sat.swap2 h10) hc.len rfl hc.one fun w11 h11 => ?_
        refine h11.ldn0 (c := c) hc.len.symm ?_
        exact hok _ _ _ rfl g1 c v1 w11 hg1 hc hT1 hl1 (Sat.drop1 (A := [(b1, _)]) h11.tail)
      · rw [hq] at hbad
        exact (hbad _ _ rfl).drop.drop.drop.drop
    rw [cnd_dec]
    constructor
    · intro hk
      rw [kd_of (l := l) (k := 17) hk] at hno hok hbad
      rw [ldp h8]
      exact sub (ih f (Nat.le_refl _)).lst hno hok hbad
    intro hk
    rw [kd_not (l := l) (k := 17) hk] at hno hok hbad
    simp only [cond_false] at hno hok hbad
    rw [cnd_dec]
    constructor
    · intro hk
      rw [kd_of (l := l) (k := 10) hk] at hno hok hbad
      rw [ldp h8]
      exact sub (ih f (Nat.le_refl _)).blk hno hok hbad
    intro hk
    rw [kd_not (l := l) (k := 10) hk] at hno hok hbad
    simp only [cond_false] at hno hok hbad
    rw [cnd_dec]
    constructor
    · intro hk
      rw [kd_of (l := l) (k := 8) hk] at hno hok hbad
      simp only [cond_true] at hno hok hbad
      rw [ldp h8]
      refine c_within hd40 hl hT h8 (fun h40 w9 h9 => ?_) (fun h40 v2 w9 hT2 h9 => ?_)
      · have hw : within d l (fun d l1 => (expr f d l1).andThen fun e l2 => (needS 9 l2).andThen fun _ l3 => Res.ok (e, false) l3) = .bad (hd l).pos 3 := by unfold within; rw [h40]; rfl
        exact bad_syn ((hbad _ _ hw).drop.drop.drop.drop) h9
      have hw : within d l (fun d l1 => (expr f d l1).andThen fun e l2 => (needS 9 l2).andThen fun _ l3 => Res.ok (e, false) l3) = (expr f (d + 1) (tk l)).andThen fun e l2 => (needS 9 l2).andThen fun _ l3 => Res.ok (e, false) l3 := by unfold within; rw [h40]; rfl
      rw [hw] at hno hok hbad
      have hd39 : d + 1 ≤ 40 := by
        have : d ≠ 40 := fun e => by rw [e] at h40; simp at h40
        omega
      show Tr P F.tree_parser_primary_1 [ptr b1 0, ptr b5 0] w9 _
      apply t_tree_parser_primary_1
      unfold d_tree_parser_primary_1
      rw [ldp h9]
      simp only [↓E2]
      refine (ih f (Nat.le_refl _)).expr hd39 hl.tk hT2 h9 (andThen_not_out hno) (fun n l1 hr => ?_) (fun q e hq => ?_)
      · rw [hr] at hno hok hbad
        simp only [andThen_eq_ok] at hno hok hbad
        intro g1 c v3 w10 hg1 hc hT3 hl3 h10
        simp only [↓E3]
        refine st_box (c2 := [i64 ((0 : Nat) : Int), str (hd l).text, i64 ((hd l).pos : Int), i64 ((0 : Nat) : Int), .slice none 0 0, .slice none 0 0]) h10.swap2 hc.len rfl hc.one fun w11 h11 => ?_
        have h12 := h11.swap2
        rw [ldp h12]
        refine c_need (k := 9) hl3 hT3 h12 (fun v4 w13 hn hT4 h13 => ?_) (fun w13 hn h13 => ?_)
        · rw [hn] at hok
          simp only [andThen_eq_ok] at hok
          simp only [↓E3]
          refine ⟨g1, v4, _, h13, fun w14 h14 => ?_⟩
          try simp only [↓E3]
          exact fin (hok _ _ _ rfl) hg1 hc hT4 hl3.tk h14
        · rw [hn] at hbad
          exact ((hbad _ _ rfl).drop.drop.drop.drop) g1 v3 (d + 1) w13 hg1 h13
      · rw [hq] at hbad
        intro g1 v3 d3 w10 hg1 h10
        exact ((hbad _ _ rfl).drop.drop.drop.drop) g1 v3 d3 w10 hg1 h10
    · intro hk
      rw [kd_not (l := l) (k := 8) hk] at hbad
      simp only [cond_false, syn] at hbad
      rw [ldp h8]
      refine c_bad hl hT h8 ?_
      exact bad_syn ((hbad _ _ rfl).drop.drop.drop.drop) h8

theorem CN.zero {fn : Nat} {spec : Nat → List Tok → Res Node} (h : ∀ d l, spec d l = .out) : CN fn spec := fun _ _ _ _ hno _ _ => absurd (h _ _) hno
theorem CB.zero {fn : Nat} {spec : Nat → List Tok → Res (Node × Bool)} (h : ∀ d l, spec d l = .out) : CB fn spec := fun _ _ _ _ hno _ _ => absurd (h _ _) hno

theorem allOK : ∀ f, AllOK f ∧ CBody f := by
  intro f
  induction f using Nat.strongRecOn with
  | _ f ih =>
    cases f with
    | zero =>
      refine ⟨⟨CN.zero fun _ _ => by simp [expr], CN.zero fun _ _ => by simp [casc], CN.zero fun _ _ => by simp [msg], CB.zero fun _ _ => by simp [keyed], CB.zero fun _ _ => by simp [binary], CB.zero fun _ _ => by simp [unary], CB.zero fun _ _ => by simp [prim],
        CN.zero fun _ _ => by simp [lst], CN.zero fun _ _ => by simp [elem], CN.zero fun _ _ => by simp [blk], CB.zero fun _ _ => by simp [stmt]⟩, ?_⟩
      intro p nb d k kd0 q nn t names nv v hpn l g w H R _ _ _ _ _ _ hno _ _
      simp [body] at hno
    | succ f =>
      have h1 : ∀ f' ≤ f, AllOK f' := fun f' h => (ih f' (by omega)).1
      have h2 : ∀ f' ≤ f, CBody f' := fun f' h => (ih f' (by omega)).2
      exact ⟨⟨k_expr h1, k_casc h1, k_msg h1, k_keyed h1, k_binary h1, k_unary h1, k_prim h1, k_lst h1, k_elem h1, k_blk h2, k_stmt h1⟩, k_body h1⟩
end Go.Vx
namespace Go.Vx
open Go Go.Proofs
variable {g : G} {w : World} {H hp T : Hp}

theorem run_eq_nil_nil {P : Program} {t : TypeId} {ms : Array (String × TypeId)} (hu : P.underlying t = some (.interface ms)) (ox : Operand) (c : Value) (w : World) : (eqRun .eql t ox (.const c) .nilIface .nilIface).run P w = .ok (.bool true) w := by
  unfold eqRun
  rw [eqGuard_nil_constR]
  have h : (Op.equal t .nilIface .nilIface).run P w = .ok true w := by
    refine run_equal (fun w => run_underlying hu w) ?_
    rw [Op.equalIn]
    simp only [Sem.run_bind, run_underlying hu, Result.andThen_ok, Sem.run_pure]
  simp [binOp, h]
theorem run_eq_held_nil {P : Program} {t u : TypeId} {x : Value} {ms : Array (String × TypeId)} (hu : P.underlying t = some (.interface ms)) (ox oy : Operand) (w : World) : (eqRun .eql t ox oy (.iface u x) .nilIface).run P w = .ok (.bool false) w := by
  unfold eqRun
  simp only [Sem.run_bind]
  rw [eqGuard_plain (P := P) .eql t ox oy (.iface u x) .nilIface w (by intro a c ⟨e, _⟩; simp at e) (by rintro ⟨e, _⟩; simp at e)]
  have h : (Op.equal t (.iface u x) .nilIface).run P w = .ok false w := by
    refine run_equal (fun w => run_underlying hu w) ?_
    rw [Op.equalIn]
    simp only [Sem.run_bind, run_underlying hu, Result.andThen_ok, Sem.run_pure]
  simp [binOp, h]
theorem run_assert_struct {P : Program} {xt t : TypeId} {v : Value} {fs : Array Field} (hu : P.underlying t = some (.struct fs)) (w : World) : (Instr.typeAssert (.iface t v) xt t true).run P w = .ok (.tuple #[v, .bool true]) w := by
  unfold Instr.typeAssert
  simp only [Sem.run_bind, run_underlying hu, Result.andThen_ok]
  simp

theorem c_unit_1_nil {a0 a1 a2 : Value} {R : Ending → FrameMode → World → Prop} (hR : R (.returned (.tuple #[])) .returning w) : CallsD P F.tree_unit_1 #[a0, a1, a2] .returning w R := by
  apply t_tree_unit_1
  unfold d_tree_unit_1
  refine ⟨.bool true, fun w' => run_eq_nil_nil Tryz.underlying20 _ _ w', ?_⟩
  simp only [↓E3]
  exact hR

theorem c_unit_1_stop {b4 b5 b6 : Nat} {c : List Value} {x y : Value} {q e : Nat} {R : Ending → FrameMode → World → Prop} (hc : c.length = 6) (hS : Sat g w ((b4, box c) :: (b5, .cells [x].toArray 3) :: (b6, .cells [y].toArray 26) :: H))
    (hR : ∀ w', Sat g w' ((b4, box zN) :: (b5, .cells [i64 (q : Int)].toArray 3) :: (b6, .cells [i64 (e : Int)].toArray 26) :: H) → R (.returned (.tuple #[])) (.panicking [{ v := .iface Ty.tree_stop (.agg #[i64 (q : Int), i64 (e : Int)]), recovered := true }]) w') :
    CallsD P F.tree_unit_1 #[ptr b4 0, ptr b5 0, ptr b6 0] (.panicking (stopE q e)) w R := by
  apply t_tree_unit_1
  unfold d_tree_unit_1
  have e1 : (recV (.panicking (stopE q e))).1 = .iface Ty.tree_stop (.agg #[i64 (q : Int), i64 (e : Int)]) := rfl
  have e2 : (recV (.panicking (stopE q e))).2 = .panicking [{ v := .iface Ty.tree_stop (.agg #[i64 (q : Int), i64 (e : Int)]), recovered := true }] := rfl
  rw [e1, e2]
  refine ⟨.bool false, fun w' => run_eq_held_nil Tryz.underlying20 _ _ w', ?_⟩
  simp only [↓E3]
  refine ⟨_, fun w' => run_assert_struct Tryz.underlying99 w', ?_⟩
  simp only [↓E1, ↓E2, ↓E3]
  refine hS.al fun b w1 h1 => ?_
  refine h1.st (c := [i64 0, i64 0]) rfl (by simp) rfl fun w2 h2 => ?_
  have h2 : Sat g w2 ((b, .cells [i64 (q : Int), i64 (e : Int)].toArray 99) :: (b4, box c) :: (b5, .cells [x].toArray 3) :: (b6, .cells [y].toArray 26) :: H) := h2
  have h3 := h2.drew
  refine bdI (cs := zN) rfl ?_
  simp only [↓E1, ↓E3, ↓h3.ld0, Nat.reduceAdd, Nat.reduceLT]
  refine st_box h3.swap2 rfl hc rfl fun w4 h4 => ?_
  have h4 := h4.swap2
  refine h4.rk (b := b) (t := 99) (fr := (0, 0)) (c := [i64 (q : Int), i64 (e : Int)]) (by simp) rfl ?_
  refine h4.rk (b := b) (t := 99) (fr := (0, 0)) (c := [i64 (q : Int), i64 (e : Int)]) (by simp) rfl ?_
  have h5 := Sat.front (A := [(b, _), (b4, _)]) h4
  refine h5.st (c := [x]) rfl (by simp) rfl fun w6 h6 => ?_
  have h6 : Sat g w6 ((b5, .cells [i64 (q : Int)].toArray 3) :: (b, .cells [i64 (q : Int), i64 (e : Int)].toArray 99) :: (b4, box zN) :: (b6, .cells [y].toArray 26) :: H) := h6
  refine h6.rk (b := b) (t := 99) (fr := (0, 0)) (c := [i64 (q : Int), i64 (e : Int)]) (by simp) rfl ?_
  have h7 := Sat.front (A := [(b5, _), (b, _), (b4, _)]) h6
  refine h7.st (c := [y]) rfl (by simp) rfl fun w8 h8 => ?_
  have h8 : Sat g w8 ((b6, .cells [i64 (e : Int)].toArray 26) :: (b5, .cells [i64 (q : Int)].toArray 3) :: (b, .cells [i64 (q : Int), i64 (e : Int)].toArray 99) :: (b4, box zN) :: H) := h8
  have h9 := Sat.del (A := [(b6, _), (b5, _)]) h8
  have h10 := Sat.front (A := [(b6, _), (b5, _)]) h9
  exact hR w8 (h10.perm (.cons _ (List.Perm.swap _ _ _)))
end Go.Vx
namespace Go.Vx
open Go Go.Proofs
variable {R : Ending → World → Prop} {g : G} {w : World} {H hp T : Hp}

/-- What stands ahead of temps. -/
def HeadOK (fn : Nat) (headS : List Tok → Res Node) : Prop :=
  ∀ {p nb : Nat} {l : List Tok} {v : Value} {g : G} {w : World} {H : Hp} {R : Ending → World → Prop}, WFL l → TS g v l → Sat g w ((p, prs v 0) :: (nb, box [i64 ((12 : Nat) : Int), str [], i64 ((0 : Nat) : Int), i64 ((0 : Nat) : Int), .slice none 0 0, .slice none 0 0]) :: H) → headS l ≠ .out →
    (∀ (t : List UInt8) (nn : Nat) (names : List (List UInt8)) (l' : List Tok), headS l = .ok (.mk 12 t 0 nn names []) l' → ∀ g' v' nv hpn w', g.le g' → TS g' v' l' → WFL l' → l'.length ≤ l.length → names.length + l'.length ≤ 5000 → Grow Ty.string 1 nv names.length (names.map str) hpn →
      Sat g' w' ((p, prs v' 0) :: (nb, box [i64 ((12 : Nat) : Int), str t, i64 ((0 : Nat) : Int), i64 (nn : Int), nv, .slice none 0 0]) :: (hpn ++ H)) → R (.returned (.tuple #[])) w') →
    (∀ q e, headS l = .bad q e → ∀ g' v' d' x hpn w', g.le g' → Sat g' w' ((p, prs v' d') :: (nb, box x) :: (hpn ++ H)) → x.length = 6 → R (.panicked (stopE q e)) w') → Tr P fn [ptr p 0, ptr nb 0] w R

theorem head_parse : HeadOK F.tree_Parse_1 (fun l => .ok (.mk 12 [] 0 0 [] []) l) := by
  intro p nb l v g w H R hl hT hS _ hok _
  apply t_tree_Parse_1
  unfold d_tree_Parse_1
  have := hl.len
  exact hok [] 0 [] l rfl g v _ [] w (.refl g) hT hl (Nat.le_refl _) (by simp; omega) .nil hS

theorem settle_rec (v : Value) : settle (.panicking [{ v := v, recovered := true }]) = .returning := by simp [settle]
theorem settle_ret : settle .returning = .returning := by simp [settle]

theorem c_unit (hW : WholeOK) {s : List UInt8} {headS : List Tok → Res Node} {fn : Nat} (hhead : HeadOK fn headS) (hlen : s.length ≤ 9223372036854775807) (hS : Sat g w H)
    (hh : ∀ l, readS s = .ok l → headS l ≠ .out ∧ ∀ n l1, headS l = .ok n l1 → l1.length ≤ l.length ∧ ∃ t nn names, n = .mk 12 t 0 nn names [])
    (hok : ∀ n g' c w', unitS s headS = .ok n → g.le g' → NodeR g' c n → Sat g' w' H → R (.returned (.tuple #[.agg c.toArray, i64 0, i64 0])) w')
    (herr : ∀ (q e : Nat) g' w', unitS s headS = .error (q, e) → g.le g' → Sat g' w' H → R (.returned (.tuple #[.agg zN.toArray, i64 (q : Int), i64 (e : Int)])) w') : Tr P F.tree_unit [str s, .func (.func fn) #[] #[]] w R := by
  apply t_tree_unit
  unfold d_tree_unit
  refine hS.al fun b4 w1 h1 => h1.al fun b5 w2 h2 => h2.al fun b6 w3 h3 => ?_
  have h3 : Sat g w3 ((b6, .cells [i64 0].toArray 26) :: (b5, .cells [i64 0].toArray 3) :: (b4, box zN) :: H) := h3
  simp only [↓E2]
  refine c_Read hW h3 hlen (fun l g1 v w4 hrd hg1 h4 hT => ?_) (fun q e g1 w4 hrd hg1 h4 => ?_)
  · simp only [↓E1, ↓E2, ↓E3]
    refine h4.swap2.st (c := [i64 0]) rfl (by simp) rfl fun w5 h5 => ?_
    refine h5.swap2.st (c := [i64 0]) rfl (by simp) rfl fun w6 h6 => ?_
    have h6 : Sat g1 w6 ((b6, .cells [i64 0].toArray 26) :: (b5, .cells [i64 0].toArray 3) :: (b4, box zN) :: H) := h6
    try simp only [↓h6.ld0, ↓E1, ↓E2, ↓E3, Nat.reduceAdd, Nat.reduceLT]
    simp only [decide_true, Bool.not_true, ↓E3]
    refine ⟨_, _, _, rfl, ?_⟩
    have hl := readS_wf hrd
    obtain ⟨hho, hhl⟩ := hh l hrd
    have hone : one v = true := hT.one
    refine bdI (cs := [v, i64 0]) (by obtain ⟨a, c, rfl, _⟩ := hT; rfl) ?_
    have hz : (Value.agg [v, i64 0].toArray).cells.toList = [v, i64 0] := rfl
    rw [hz]
    refine h6.al fun p w7 h7 => ?_
    refine bdI (cs := [i64 ((12 : Nat) : Int), str [], i64 ((0 : Nat) : Int), i64 ((0 : Nat) : Int), .slice none 0 0, .slice none 0 0]) rfl ?_
    have h8 := Sat.front (A := [(p, _), (b6, _), (b5, _)]) h7
    refine st_box (c2 := zN) h8 rfl rfl rfl fun w9 h9 => ?_
    have h10 : Sat g1 w9 ((p, prs v 0) :: (b4, box [i64 ((12 : Nat) : Int), str [], i64 ((0 : Nat) : Int), i64 ((0 : Nat) : Int), .slice none 0 0, .slice none 0 0]) :: (b6, .cells [i64 0].toArray 26) :: (b5, .cells [i64 0].toArray 3) :: H) := Sat.swap2 h9
    simp only [↓E2, List.append_nil, List.nil_append]
    -- who gives up
    have stop : ∀ {g2 : G} {v' : Value} {d' : Nat} {x : List Value} {w' : World} {q e : Nat}, unitS s headS = .error (q, e) → g.le g2 → x.length = 6 → Sat g2 w' ((p, prs v' d') :: (b4, box x) :: (b6, .cells [i64 0].toArray 26) :: (b5, .cells [i64 0].toArray 3) :: H) →
        dl P { target := .fn (.func F.tree_unit_1) #[ptr b4 0, ptr b5 0, ptr b6 0], args := #[] ++ ([] : List Value).toArray } (.panicking (stopE q e)) (fun w => ldn 6 (ptr b4 0) (fun r0 w => ld (ptr b5 0) (fun r1 w => ld (ptr b6 0) (fun r2 w => R (.returned (.tuple #[r0, r1, r2])) w) w) w) w) (fun ch w => R (.panicked ch) w) w' := by
      intro g2 v' d' x w' q e hu hg2 hx h
      refine ⟨_, _, rfl, n_tree_unit_1, ?_⟩
      have h11 := Sat.tail h
      have h12 := h11.perm (.cons _ (List.Perm.swap _ _ _))
      refine c_unit_1_stop hx h12 fun w13 h13 => ?_
      simp only [settle_rec, backD]
      refine h13.ldn0 (c := zN) rfl ?_
      rw [h13.ld1 0 _ (by simp), h13.ld2 0 _ (by simp)]
      exact herr q e g2 w13 hu hg2 (h13.tail.tail.tail)
    refine hhead hl hT h10 hho (fun t nn names l1 hhd g2 v2 nv hpn w11 hg2 hT2 hl2 hle hnl hgn h11 => ?_) (fun q e hq g2 v2 d2 x hpn w11 hg2 h11 hx => ?_)
    · have hun : unitS s headS = match body (fuelOf l) 0 0 (.mk 12 t 0 nn names []) l1 with
          | .ok n _ => .ok n
          | .bad p e => .error (p, e)
          | .out => .error (0, 0) := by
        unfold unitS
        rw [hrd]
        simp only [hhd, andThen_eq_ok]
        cases body (fuelOf l) 0 0 (.mk 12 t 0 nn names []) l1 <;> rfl
      simp only [↓E3]
      have hno : body (fuelOf l) 0 0 (.mk 12 t 0 nn names []) l1 ≠ .out := (nout (fuelOf l)).body (by unfold fuelOf; omega)
      refine (allOK (fuelOf l)).2 (k := 0) (by omega) hl2 hT2 hnl hgn h11 hno (fun n l3 hb => ?_) (fun q e hb => ?_)
      · rw [hb] at hun
        intro g3 c v3 w12 hg3 hc hT3 hl3 h12
        simp only [↓E3]
        refine h12.swap2.ldn0 (c := c) hc.len.symm ?_
        refine st_box h12.swap2 hc.len hc.len hc.one fun w13 h13 => ?_
        have h14 := Sat.front (A := [(b4, _), (p, _), (b6, _)]) h13
        refine h14.st (c := [i64 0]) rfl (by simp) rfl fun w15 h15 => ?_
        have h16 := Sat.front (A := [(b5, _), (b4, _), (p, _)]) h15
        refine h16.st (c := [i64 0]) rfl (by simp) rfl fun w17 h17 => ?_
        have h17 : Sat g3 w17 ((b6, .cells [i64 0].toArray 26) :: (b5, .cells [i64 0].toArray 3) :: (b4, box c) :: (p, prs v3 0) :: H) := h17
        refine ⟨_, _, rfl, n_tree_unit_1, ?_⟩
        refine c_unit_1_nil ?_
        simp only [settle_ret, backD]
        have h18 := Sat.front (A := [(b6, _), (b5, _)]) h17
        refine h18.ldn0 (c := c) hc.len.symm ?_
        rw [h18.ld2 0 _ (by simp), h18.ld1 0 _ (by simp)]
        exact hok n g3 c w17 hun (hg1.trans (hg2.trans hg3)) hc (h18.tail.tail.tail.tail)
      · rw [hb] at hun
        intro g3 v3 d3 x w12 hg3 hx h12
        exact stop hun (hg1.trans (hg2.trans hg3)) hx h12
    · have hun : unitS s headS = .error (q, e) := by
        unfold unitS
        rw [hrd]
        simp only [hq, andThen_eq_bad]
      exact stop hun (hg1.trans hg2) hx (Sat.drop2 (A := hpn) h11)
  · have hun : unitS s headS = .error (q, e) := by
      unfold unitS
      rw [hrd]
    simp only [↓E1, ↓E2, ↓E3]
    refine h4.swap2.st (c := [i64 0]) rfl (by simp) rfl fun w5 h5 => ?_
    refine h5.swap2.st (c := [i64 0]) rfl (by simp) rfl fun w6 h6 => ?_
    have h6 : Sat g1 w6 ((b6, .cells [i64 (e : Int)].toArray 26) :: (b5, .cells [i64 (q : Int)].toArray 3) :: (b4, box zN) :: H) := h6
    try simp only [↓h6.ld0, ↓E1, ↓E2, ↓E3, Nat.reduceAdd, Nat.reduceLT]
    have he : e ≠ 0 := by
      unfold readS at hrd
      rcases cond_or hrd with ⟨_, h⟩ | ⟨_, h⟩
      · injection h with h
        injection h with _ h
        omega
      · cases hr : readGo (s.length + 1) s 0 [] with
        | ok x => rw [hr] at h; simp at h
        | error x =>
          rw [hr] at h
          injection h with h
          injection h with _ h
          omega
    rw [cnd_ndec]
    constructor
    · intro _
      have h7 := h6.drew
      refine bdI (cs := zN) rfl ?_
      simp only [↓h7.ld1, ↓h7.ld0, ↓E3, Nat.reduceAdd, Nat.reduceLT]
      have h8 := Sat.front (A := [(b6, _), (b5, _)]) h7
      refine st_box (c2 := zN) h8 rfl rfl rfl fun w9 h9 => ?_
      refine h9.rk (b := b6) (t := 26) (fr := (0, 0)) (c := [i64 (e : Int)]) (by simp) rfl ?_
      refine h9.rk (b := b5) (t := 3) (fr := (0, 0)) (c := [i64 (q : Int)]) (by simp) rfl ?_
      have h10 := Sat.front (A := [(b4, _), (b6, _)]) h9
      refine h10.st (c := [i64 (q : Int)]) rfl (by simp) rfl fun w11 h11 => ?_
      refine h11.rk (b := b6) (t := 26) (fr := (0, 0)) (c := [i64 (e : Int)]) (by simp) rfl ?_
      have h12 := Sat.front (A := [(b5, _), (b4, _)]) h11
      refine h12.st (c := [i64 (e : Int)]) rfl (by simp) rfl fun w13 h13 => ?_
      have h13 : Sat g1 w13 ((b6, .cells [i64 (e : Int)].toArray 26) :: (b5, .cells [i64 (q : Int)].toArray 3) :: (b4, box zN) :: H) := h13
      have h14 := Sat.front (A := [(b6, _), (b5, _)]) h13
      refine h14.ldn0 (c := zN) rfl ?_
      rw [h14.ld2 0 _ (by simp), h14.ld1 0 _ (by simp)]
      exact herr q e g1 w13 hun hg1 (h14.tail.tail.tail)
    · intro h
      omega
end Go.Vx
namespace Go.Vx
open Go Go.Proofs
variable {R : Ending → World → Prop} {g : G} {w : World} {H hp T : Hp}

theorem c_Parse (hW : WholeOK) {s : List UInt8} (hlen : s.length ≤ 9223372036854775807) (hS : Sat g w H)
    (hok : ∀ n g' c w', parseS s = .ok n → g.le g' → NodeR g' c n → Sat g' w' H → R (.returned (.tuple #[.agg c.toArray, i64 0, i64 0])) w')
    (herr : ∀ (q e : Nat) g' w', parseS s = .error (q, e) → g.le g' → Sat g' w' H → R (.returned (.tuple #[.agg zN.toArray, i64 (q : Int), i64 (e : Int)])) w') : Tr P F.tree_Parse [str s] w R := by
  apply t_tree_Parse
  unfold d_tree_Parse
  refine hS.al fun b2 w1 h1 => ?_
  have h1 : Sat g w1 ((b2, box zN) :: H) := h1
  simp only [↓E2]
  refine c_unit hW head_parse hlen h1 (fun l _ => ⟨by simp, fun n l1 h => ?_⟩) (fun n g1 c w2 hu hg1 hc h2 => ?_) (fun q e g1 w2 hu hg1 h2 => ?_)
  · injection h with h3 h4
    subst h4
    exact ⟨Nat.le_refl _, [], 0, [], h3.symm⟩
  · simp only [↓E2, ↓E3]
    refine st_box h2 hc.len rfl hc.one fun w3 h3 => ?_
    refine h3.ldn0 (c := c) hc.len.symm ?_
    exact hok n g1 c w3 hu hg1 hc h3.tail
  · simp only [↓E2, ↓E3]
    refine st_box (c := zN) h2 rfl rfl rfl fun w3 h3 => ?_
    refine h3.ldn0 (c := zN) rfl ?_
    exact herr q e g1 w3 hu hg1 h3.tail
end Go.Vx
namespace Go.Vx

structure Use where
  pos : Nat
  name : List UInt8
  kind : Int
  depth : Nat
  index : Nat
  write : Bool
  deriving DecidableEq

def selfT : List UInt8 := [115, 101, 108, 102]
def superT : List UInt8 := [115, 117, 112, 101, 114]
/-- What is always the same: its kind and index. -/
def fixedS (t : List UInt8) : Option (Nat × Nat) :=
  bif t == selfT then some (0, 0) else bif t == superT then some (1, 0) else bif t == nilT then some (2, 0) else bif t == falseT then some (2, 1) else bif t == trueT then some (2, 2) else none
def idxT (t : List UInt8) : List (List UInt8) → Nat → Option Nat
  | [], _ => none
  | x :: l, i => bif x == t then some i else idxT t l (i + 1)
/-- A unit's names, and how many of them are arguments. -/
structure Fr where
  names : List (List UInt8)
  n : Nat
def findF (t : List UInt8) : List Fr → Nat → Option (Nat × Nat × Bool)
  | [], _ => none
  | f :: fs, d => match idxT t f.names 0 with
    | some k => some (d, k, Nat.blt k f.n)
    | none => findF t fs (d + 1)
/-- Is it a global's name? -/
def capB : List UInt8 → Bool
  | [] => false
  | c :: _ => Nat.ble 65 c.toNat && Nat.ble c.toNat 90
/-- What a name is; is it an argument? -/
def findS (slots : List (List UInt8)) (t : List UInt8) (fs : List Fr) : Use × Bool :=
  match fixedS t with
  | some (k, i) => (⟨0, t, k, 0, i, false⟩, false)
  | none => match findF t fs 0 with
    | some (d, k, a) => (⟨0, t, 3, d, k, false⟩, a)
    | none => match idxT t slots 0 with
      | some k => (⟨0, t, 4, 0, k, false⟩, false)
      | none => (⟨0, t, bif capB t then 5 else -1, 0, 0, false⟩, false)
/-- Names that can be those of one unit. -/
def namesOK : List (List UInt8) → List (List UInt8) → Bool
  | _, [] => true
  | seen, t :: l => !((fixedS t).isSome || seen.contains t) && namesOK (seen ++ [t]) l

mutual
/-- One part: what is used (behind what was), or where a name is not known. -/
def partU (slots : List (List UInt8)) : Node → List Fr → Bool → List Use → Except Nat (List Use)
  | .mk k t p n ns ks, fs, to, acc =>
    bif Nat.beq k 5 then
      let u := (findS slots t fs).1
      bif u.kind == -1 || (u.kind == 1 && !to) then .error p else .ok (acc ++ [{ u with pos := p }])
    else bif Nat.beq k 6 then
      let u := (findS slots t fs)
      bif u.2 || (u.1.kind != 3 && u.1.kind != 4) then .error p else partsU slots ks fs false true (acc ++ [{ u.1 with pos := p, write := true }])
    else bif Nat.beq k 10 then
      bif namesOK [] ns then partsU slots ks (⟨ns, n⟩ :: fs) false true acc else .error p
    else partsU slots ks fs (Nat.beq k 7 || Nat.beq k 8) true acc
/-- Parts, one behind the other; the first one may be a receiver. -/
def partsU (slots : List (List UInt8)) : List Node → List Fr → Bool → Bool → List Use → Except Nat (List Use)
  | [], _, _, _, acc => .ok acc
  | k :: ks, fs, rcv, first, acc => match partU slots k fs (rcv && first) acc with
    | .error p => .error p
    | .ok acc' => partsU slots ks fs rcv false acc'
end
def resolveS (slots : List (List UInt8)) : Node → Except Nat (List Use)
  | .mk _ _ p n ns ks => bif namesOK [] ns then partsU slots ks [⟨ns, n⟩] false true [] else .error p
end Go.Vx
namespace Go.Vx

/-- What words say. -/
def wv : List Nat → Nat
  | [] => 0
  | x :: l => x + 4294967296 * wv l

theorem wv_append (a b : List Nat) : wv (a ++ b) = wv a + 4294967296 ^ a.length * wv b := by
  induction a with
  | nil => simp [wv]
  | cons x a ih =>
    simp only [List.cons_append, wv, ih, List.length_cons, Nat.pow_succ]
    rw [Nat.mul_add, Nat.add_assoc, Nat.mul_comm (4294967296 ^ a.length) 4294967296, Nat.mul_assoc]

theorem wv_zeros (n : Nat) : wv (List.replicate n 0) = 0 := by
  induction n with
  | zero => rfl
  | succ n ih => simp [List.replicate_succ, wv, ih]

theorem wv_snoc (a : List Nat) (x : Nat) : wv (a ++ [x]) = wv a + 4294967296 ^ a.length * x := by
  rw [wv_append]; simp [wv]

theorem wv_take_succ {a : List Nat} {i x : Nat} (h : a[i]? = some x) : wv (a.take (i + 1)) = wv (a.take i) + 4294967296 ^ i * x := by
  have hi := (List.getElem?_eq_some_iff.1 h).1
  rw [List.take_add_one, h]
  simp only [Option.toList_some]
  rw [wv_snoc, List.length_take, Nat.min_eq_left (by omega)]

theorem wv_set {a : List Nat} {i x : Nat} (y : Nat) (h : a[i]? = some x) : wv (a.set i y) + 4294967296 ^ i * x = wv a + 4294967296 ^ i * y := by
  induction a generalizing i with
  | nil => simp at h
  | cons z a ih =>
    cases i with
    | zero =>
      simp at h
      subst h
      simp only [List.set_cons_zero, wv, Nat.pow_zero, Nat.one_mul]
      omega
    | succ i =>
      have := ih (i := i) (by simpa using h)
      simp only [List.set_cons_succ, wv, Nat.pow_succ]
      have e1 : 4294967296 ^ i * 4294967296 * x = 4294967296 * (4294967296 ^ i * x) := by rw [Nat.mul_comm (4294967296 ^ i), Nat.mul_assoc]
      have e2 : 4294967296 ^ i * 4294967296 * y = 4294967296 * (4294967296 ^ i * y) := by rw [Nat.mul_comm (4294967296 ^ i), Nat.mul_assoc]
      rw [e1, e2]
      omega

/-- Each is a word. -/
def W32 (a : List Nat) : Prop := ∀ x ∈ a, x < 4294967296
theorem W32.nil : W32 [] := fun x h => by simp at h
theorem W32.at {a : List Nat} (h : W32 a) {i x : Nat} (hx : a[i]? = some x) : x < 4294967296 := h x (List.mem_of_getElem? hx)
theorem W32.set {a : List Nat} (h : W32 a) {i y : Nat} (hy : y < 4294967296) : W32 (a.set i y) := fun x hx => by
  rcases List.mem_or_eq_of_mem_set hx with h1 | h1
  · exact h x h1
  · rw [h1]; exact hy
theorem W32.take {a : List Nat} (h : W32 a) (n : Nat) : W32 (a.take n) := fun x hx => h x (List.mem_of_mem_take hx)
theorem W32.zeros (n : Nat) : W32 (List.replicate n 0) := fun x hx => by rw [List.eq_of_mem_replicate hx]; decide
theorem W32.append {a b : List Nat} (h : W32 a) (k : W32 b) : W32 (a ++ b) := fun x hx => by
  rcases List.mem_append.1 hx with h1 | h1
  · exact h x h1
  · exact k x h1

theorem wv_lt {a : List Nat} (h : W32 a) : wv a < 4294967296 ^ a.length := by
  induction a with
  | nil => simp [wv]
  | cons x a ih =>
    have h1 := ih (fun y hy => h y (by simp [hy]))
    have h2 := h x (by simp)
    simp only [wv, List.length_cons, Nat.pow_succ]
    omega

/-- How many words are left without noughts at the end. -/
def trimN (a : List Nat) : Nat → Nat
  | 0 => 0
  | n + 1 => bif Nat.beq (a.getD n 0) 0 then trimN a n else n + 1
theorem trimN_le (a : List Nat) (n : Nat) : trimN a n ≤ n := by
  induction n with
  | zero => exact Nat.le_refl _
  | succ n ih =>
    simp only [trimN]
    cases Nat.beq (a.getD n 0) 0
    · exact Nat.le_refl _
    · exact Nat.le_succ_of_le ih
theorem wv_trim (a : List Nat) {n : Nat} (hn : n ≤ a.length) : wv (a.take (trimN a n)) = wv (a.take n) := by
  induction n with
  | zero => rfl
  | succ n ih =>
    simp only [trimN]
    cases h : Nat.beq (a.getD n 0) 0
    · rfl
    · have h0 : a[n]? = some 0 := by
        have := Nat.eq_of_beq_eq_true h
        rw [List.getD_eq_getElem?_getD] at this
        rw [List.getElem?_eq_getElem (by omega)] at this ⊢
        simpa using this
      rw [wv_take_succ h0]
      simpa using ih (by omega)

/-- Without noughts at the end. -/
def Trimmed (a : List Nat) : Prop := ∀ x, a.getLast? = some x → x ≠ 0
theorem Trimmed.nil : Trimmed [] := fun x h => by simp at h
theorem trim_trimmed (a : List Nat) {n : Nat} (hn : n ≤ a.length) : Trimmed (a.take (trimN a n)) := by
  induction n with
  | zero => exact fun x h => by simp [trimN] at h
  | succ n ih =>
    simp only [trimN]
    cases h : Nat.beq (a.getD n 0) 0
    · simp only [cond_false]
      intro x hx hx0
      subst hx0
      have hg : a.getD n 0 = 0 := by
        rw [List.getLast?_eq_getElem?, List.length_take, Nat.min_eq_left hn, Nat.add_sub_cancel, List.getElem?_take] at hx
        simp only [Nat.lt_succ_self, if_true] at hx
        rw [List.getD_eq_getElem?_getD, hx]
        rfl
      rw [hg] at h
      simp at h
    · exact ih (by omega)
theorem wv_zero {a : List Nat} (h : Trimmed a) (h0 : wv a = 0) : a = [] := by
  induction a with
  | nil => rfl
  | cons x a ih =>
    simp only [wv] at h0
    have h1 : a = [] := ih (fun y hy => h y (by rw [List.getLast?_cons, hy]; rfl)) (by omega)
    subst h1
    exact absurd (by omega) (h x rfl)

/-! ### Bytes, the highest first -/
def bev : List UInt8 → Nat → Nat
  | [], n => n
  | c :: l, n => bev l (n * 256 + c.toNat)
theorem bev_append (a b : List UInt8) (n : Nat) : bev (a ++ b) n = bev b (bev a n) := by
  induction a generalizing n with
  | nil => rfl
  | cons c a ih => exact ih _
theorem bev_lin (a : List UInt8) (n : Nat) : bev a n = n * 256 ^ a.length + bev a 0 := by
  induction a generalizing n with
  | nil => simp [bev]
  | cons c a ih =>
    simp only [bev]
    rw [ih, ih (0 * 256 + c.toNat), List.length_cons, Nat.pow_succ, Nat.add_mul, Nat.zero_mul, Nat.zero_add]
    rw [Nat.mul_assoc, Nat.mul_comm 256, Nat.add_assoc]
theorem bev_lt (a : List UInt8) : bev a 0 < 256 ^ a.length := by
  induction a with
  | nil => simp [bev]
  | cons c a ih =>
    simp only [bev]
    rw [bev_lin]
    have := c.toNat_lt
    simp only [List.length_cons, Nat.pow_succ]
    have h2 : (0 * 256 + c.toNat) * 256 ^ a.length ≤ 255 * 256 ^ a.length := Nat.mul_le_mul_right _ (by omega)
    omega
/-- The four bytes of a word. -/
def w4 (x : Nat) : List UInt8 := [UInt8.ofNat (x / 16777216), UInt8.ofNat (x / 65536), UInt8.ofNat (x / 256), UInt8.ofNat x]
theorem bev_w4 {x n : Nat} (h : x < 4294967296) : bev (w4 x) n = n * 4294967296 + x := by
  simp only [bev, w4, UInt8.toNat_ofNat']
  omega
/-- Words' bytes: those of the highest word first. -/
def w4s (a : List Nat) : List UInt8 := (a.reverse.map w4).flatten
theorem w4s_snoc (a : List Nat) (x : Nat) : w4s (a ++ [x]) = w4 x ++ w4s a := by simp [w4s]
theorem w4s_cons (a : List Nat) (x : Nat) : w4s (x :: a) = w4s a ++ w4 x := by simp [w4s]
theorem bev_w4s {a : List Nat} (h : W32 a) (n : Nat) : bev (w4s a) n = n * 4294967296 ^ a.length + wv a := by
  induction a generalizing n with
  | nil => simp [w4s, bev, wv]
  | cons x a ih =>
    rw [w4s_cons, bev_append, ih (fun y hy => h y (by simp [hy])), bev_w4 (h x (by simp)), wv, List.length_cons, Nat.pow_succ]
    rw [Nat.add_mul]
    rw [Nat.mul_assoc, Nat.mul_comm (wv a)]
    omega
/-- Without noughts ahead. -/
def strip : List UInt8 → List UInt8
  | [] => []
  | c :: l => bif c == 0 then strip l else c :: l
theorem bev_strip (l : List UInt8) : bev (strip l) 0 = bev l 0 := by
  induction l with
  | nil => rfl
  | cons c l ih =>
    simp only [strip]
    cases h : c == 0
    · rfl
    · have : c = 0 := by simpa using h
      subst this
      simpa [bev] using ih
theorem strip_head (l : List UInt8) : ∀ c, (strip l).head? = some c → c ≠ 0 := by
  induction l with
  | nil => simp [strip]
  | cons c l ih =>
    simp only [strip]
    cases h : c == 0
    · simpa using h
    · exact ih
theorem strip_len (l : List UInt8) : (strip l).length ≤ l.length := by
  induction l with
  | nil => exact Nat.le_refl _
  | cons c l ih =>
    simp only [strip]
    cases c == 0
    · exact Nat.le_refl _
    · simp only [cond_true, List.length_cons]; omega
/-- How many bytes a number has. -/
theorem bytes_len {l : List UInt8} (h : ∀ c, l.head? = some c → c ≠ 0) (n : Nat) : n < l.length ↔ 256 ^ n ≤ bev l 0 := by
  cases l with
  | nil =>
    simp only [List.length_nil, bev]
    have : 0 < 256 ^ n := Nat.pow_pos (by decide)
    omega
  | cons c l =>
    have hc : 1 ≤ c.toNat := by
      have := h c rfl
      have h0 : c.toNat ≠ 0 := fun e => this (UInt8.toNat_inj.1 e)
      omega
    have hlt := bev_lt (c :: l)
    have hge : 256 ^ l.length ≤ bev (c :: l) 0 := by
      simp only [bev]
      rw [bev_lin]
      have : 1 * 256 ^ l.length ≤ (0 * 256 + c.toNat) * 256 ^ l.length := Nat.mul_le_mul_right _ (by omega)
      omega
    simp only [List.length_cons] at hlt ⊢
    constructor
    · intro hn
      exact Nat.le_trans (Nat.pow_le_pow_right (by decide) (by omega)) hge
    · intro hn
      have : 256 ^ n < 256 ^ (l.length + 1) := Nat.lt_of_le_of_lt hn hlt
      exact (Nat.pow_lt_pow_iff_right (by decide)).1 this
end Go.Vx
namespace Go.Vx
open Go Go.Proofs
variable {R : Ending → World → Prop} {g : G} {w : World} {H hp T : Hp}

abbrev u32v (n : Nat) : Value := .int .u32 (n : Int)
abbrev u64v (n : Nat) : Value := .int .u64 (n : Int)
theorem wrap_u32 (n : Nat) : IntKind.u32.wrap (n : Int) = ((n % 4294967296 : Nat) : Int) := by
  show (n : Int) % 4294967296 = _
  omega
theorem wrap_u64 {n : Nat} (h : n < 18446744073709551616) : IntKind.u64.wrap (n : Int) = (n : Int) := by
  show (n : Int) % 18446744073709551616 = _
  omega
theorem wrap_u64_of {n : Int} (h0 : 0 ≤ n) (h : n < 18446744073709551616) : IntKind.u64.wrap n = n := by
  show n % 18446744073709551616 = _
  omega
theorem zerosV_one (x : Value) (n : Nat) : zerosV [x] n = List.replicate n x := by
  induction n with
  | zero => rfl
  | succ n ih => simp [zerosV, ih, List.replicate_succ]
theorem allOne_map {α : Type} (f : α → Value) (h : ∀ x, one (f x) = true) (l : List α) : allOne (l.map f) = true := by
  induction l with
  | nil => rfl
  | cons x l ih => simp only [List.map_cons, allOne, h, ih]; rfl

/-- The first ones of a slice that stays. -/
theorem Sl.take {sz n c : Nat} {a : Option Addr} {cs : List Value} (h : Sl g sz (.slice a n c) n cs) {k : Nat} (hk : k ≤ n) : Sl g sz (.slice a k c) k (cs.take (k * sz)) := by
  obtain ⟨a', c', he, h2, h3, h4⟩ := h
  injection he with e1 _ e3
  subst e1 e3
  refine ⟨a, c, rfl, by omega, ?_, ?_⟩
  · rw [List.length_take, h3]
    exact Nat.min_eq_left (Nat.mul_le_mul_right _ hk)
  · rcases h4 with ⟨h5, h6⟩ | ⟨b, o, h5, h6⟩
    · exact .inl ⟨h5, by rw [h6]; simp⟩
    · refine .inr ⟨b, o, h5, fun j x hx => ?_⟩
      rw [List.getElem?_take] at hx
      split at hx
      · exact h6 j x hx
      · simp at hx
/-- A block that stays from now on, xs a slice. -/
theorem Sat.frzS {b n c sz : Nat} {cs : List Value} {t : TypeId} {fr : Nat × Nat} (h : Sat g w ((b, .cells cs.toArray t fr) :: H)) (hl : cs.length = n * sz) (hc : n ≤ c) :
    ∃ g', g.le g' ∧ Sat g' w H ∧ Sl g' sz (.slice (some ⟨b, 0, none⟩) n c) n cs := by
  obtain ⟨h4, h5⟩ := Sat.freeze h
  refine ⟨_, h5, h4, some ⟨b, 0, none⟩, c, rfl, hc, hl, .inr ⟨b, 0, rfl, fun j x hx => ?_⟩⟩
  rw [add_cell, Nat.zero_add]
  simpa using hx

/-- Words of the program's. -/
abbrev WS (g : G) (v : Value) (ws : List Nat) : Prop := Sl g 1 v ws.length (ws.map u32v)
theorem WS.cell {v : Value} {n : Nat} {ws : List Nat} (hT : Sl g 1 v n (ws.map u32v)) (hS : Sat g w H) {k : IntKind} {j x : Nat} (hj : ws[j]? = some x) {K : Value → World → Prop}
    (hk : ∀ b o, g.cell? b o = some (u32v x) → K (ptr b o) w) : ia 1 v (.int k (j : Int)) K w := by
  have hn : ws.length = n := by obtain ⟨_, _, _, _, h3, _⟩ := hT; simpa using h3
  refine Sl.at hT hS (by rw [← hn]; exact (List.getElem?_eq_some_iff.1 hj).1) (by decide) fun b o h => hk b o ?_
  have := h 0 (u32v x) (by
    rw [Nat.mul_one, List.getElem?_take]
    simp [hj])
  simpa using this

theorem c_trim {v : Value} {ws : List Nat} (hW : WS g v ws) (hl : ws.length ≤ 9223372036854775807) (hS : Sat g w H)
    (hR : ∀ v', WS g v' (ws.take (trimN ws ws.length)) → R (.returned v') w) : Tr P F.whole_words_trim [v] w R := by
  apply t_whole_words_trim
  unfold d_whole_words_trim
  refine lp1 (fun m x w' => w' = w ∧ m ≤ ws.length ∧ Sl g 1 x m ((ws.take m).map u32v) ∧ trimN ws ws.length = trimN ws m) ws.length ⟨rfl, Nat.le_refl _, by rw [List.take_of_length_le (Nat.le_refl _)]; exact hW, rfl⟩ ?_
  rintro m x w' ⟨rfl, hm, hx, ht⟩
  obtain ⟨a, c, rfl, hc, _, _⟩ := id hx
  have hlen : (ws.take m).length = m := by rw [List.length_take, Nat.min_eq_left hm]
  have fin : trimN ws ws.length = m → WS g (.slice a m c) (ws.take (trimN ws ws.length)) := by
    intro e
    show Sl g 1 _ _ _
    rw [e, hlen]
    exact hx
  refine jnI ?_
  simp only [↓E1, ↓E2, ↓E3]
  rw [cnd_dec]
  constructor
  · intro hpos
    rw [wrap64_of (by omega) (by omega)]
    obtain ⟨m', rfl⟩ : ∃ m', m = m' + 1 := ⟨m - 1, by omega⟩
    have e : ((m' + 1 : Nat) : Int) - 1 = (m' : Int) := by omega
    rw [e]
    have hget : (ws.take (m' + 1))[m']? = some (ws.getD m' 0) := by
      rw [List.getElem?_take, if_pos (by omega), List.getD_eq_getElem?_getD, List.getElem?_eq_getElem (by omega)]
      rfl
    refine WS.cell hx hS hget fun b o hb => ?_
    rw [hS.ldI hb]
    simp only [↓E1]
    rw [cnd_dec]
    constructor
    · intro h0
      refine slL_hi _ _ _ _ _ _ (by omega) (by omega) ?_
      refine ⟨m', by omega, _, rfl, rfl, by omega, ?_, ?_⟩
      · have h1 := Sl.take (k := m') hx (by omega)
        have e3 : ((ws.take (m' + 1)).map u32v).take (m' * 1) = (ws.take m').map u32v := by
          rw [Nat.mul_one, ← List.map_take, List.take_take, Nat.min_eq_left (by omega)]
        rw [e3] at h1
        exact h1
      · rw [ht]
        have hb0 : Nat.beq (ws.getD m' 0) 0 = true := by
          have : (ws.getD m' 0) = 0 := by omega
          rw [this]; rfl
        simp only [trimN, hb0, cond_true]
    · intro h0
      refine hR _ (fin ?_)
      rw [ht]
      have hb0 : Nat.beq (ws.getD m' 0) 0 = false := by
        cases hb : Nat.beq (ws.getD m' 0) 0 with
        | false => rfl
        | true => have := Nat.eq_of_beq_eq_true hb; omega
      simp only [trimN, hb0, cond_false]
  · intro h
    have : m = 0 := by omega
    subst this
    refine hR _ (fin ?_)
    rw [ht]
    rfl

theorem mul_step {W W' W0 p q a m o c : Nat} (h1 : W' + p * o = W + p * ((c + (a * m + o)) % 4294967296)) (h2 : W + p * c = W0 + q) : W' + (p * 4294967296) * ((c + (a * m + o)) / 4294967296) = W0 + (q + p * (a * m)) := by
  have h := Nat.div_add_mod (c + (a * m + o)) 4294967296
  generalize (c + (a * m + o)) / 4294967296 = d at h ⊢
  generalize (c + (a * m + o)) % 4294967296 = r at h h1
  have e : p * (4294967296 * d) + p * r = p * c + (p * (a * m) + p * o) := by rw [← Nat.mul_add, h, Nat.mul_add, Nat.mul_add]
  rw [Nat.mul_assoc]
  omega

theorem carry_lt {c a m o : Nat} (hc : c < 4294967296) (ha : a < 4294967296) (hm : m < 4294967296) (ho : o < 4294967296) : c + (a * m + o) < 18446744073709551616 := by
  have : a * m ≤ 4294967295 * 4294967295 := Nat.mul_le_mul (by omega) (by omega)
  omega

theorem getD_some {ws : List Nat} {j : Nat} (h : j < ws.length) : ∃ x, ws[j]? = some x := ⟨ws[j], List.getElem?_eq_getElem h⟩
theorem map_set_u (ws : List Nat) (j x : Nat) : (ws.map u32v).set j (u32v x) = (ws.set j x).map u32v := by rw [List.map_set]

theorem wr_one (cs : List Value) (j : Nat) (v : Value) : wr cs.toArray j [v] = (cs.set j v).toArray := by simp [wr]
theorem wr_u (ws : List Nat) (j x : Nat) : wr (ws.map u32v).toArray j (u32v x).cells.toList = ((ws.set j x).map u32v).toArray := by
  rw [← map_set_u, ← wr_one]; rfl
theorem shr32 (n : Nat) : opI .shr .u64 (n : Int) 32 = u64v (n / 4294967296) := by
  show Value.int .u64 (Int.fdiv (n : Int) (2 ^ (min (Int.toNat 32) 64))) = _
  have e : (2 : Int) ^ (min (Int.toNat 32) 64) = 4294967296 := by decide
  rw [e, Int.fdiv_eq_ediv_of_nonneg _ (by decide)]
  congr 1

theorem c_times {va vb : Value} {xs ys : List Nat} (hA : WS g va xs) (hB : WS g vb ys) (ha : W32 xs) (hb : W32 ys) (hla : xs.length ≤ 1000000) (hlb : ys.length ≤ 1000000) (hS : Sat g w H)
    (hR : ∀ g' v' ws w', g.le g' → WS g' v' ws → W32 ws → Trimmed ws → wv ws = wv xs * wv ys → ws.length ≤ xs.length + ys.length → Sat g' w' H → R (.returned v') w') : Tr P F.whole_times [va, vb] w R := by
  apply t_whole_times
  unfold d_whole_times
  obtain ⟨a1, c1, rfl, _, _, _⟩ := id hA
  obtain ⟨a2, c2, rfl, _, _, _⟩ := id hB
  try simp only [↓E1, ↓E2]
  rw [wrap64_nat (by omega)]
  refine hS.mkS (by omega) (Int.le_refl _) (by omega) (by omega) fun b w1 h1 => ?_
  rw [Int.toNat_natCast, zerosV_one] at *
  have e0 : List.replicate (xs.length + ys.length) (Value.int .u32 0) = (List.replicate (xs.length + ys.length) 0).map u32v := by simp
  rw [e0] at h1
  try simp only [↓E1, ↓E2]
  refine lp1 (fun m y w' => ∃ i os, y = i64 ((i : Nat) : Int) ∧ m = xs.length - i ∧ i ≤ xs.length ∧ os.length = xs.length + ys.length ∧ W32 os ∧ wv os = wv (xs.take i) * wv ys ∧
      (∀ k, i + ys.length ≤ k → k < xs.length + ys.length → os[k]? = some 0) ∧ Sat g w' ((b, .cells (os.map u32v).toArray 211) :: H)) xs.length
    ⟨0, _, rfl, rfl, by omega, List.length_replicate, W32.zeros _, by rw [wv_zeros]; simp [wv], fun k h2 h3 => by rw [List.getElem?_replicate, if_pos h3], h1⟩ ?_
  rintro m y w2 ⟨i, os, rfl, rfl, hi, hol, how, hov, hoz, h2⟩
  try simp only [↓E1]
  rw [cnd_dec]
  constructor
  · intro hlt
    have hlt : i < xs.length := by omega
    obtain ⟨x, hx⟩ := getD_some hlt
    have hx32 := ha.at hx
    refine WS.cell hA h2 hx fun b3 o3 hc3 => ?_
    rw [h2.ldI hc3]
    try simp only [↓E2]
    refine lp2 (fun m y z w' => ∃ c j os', y = u64v c ∧ z = i64 ((j : Nat) : Int) ∧ m = ys.length - j ∧ j ≤ ys.length ∧ c < 4294967296 ∧ os'.length = xs.length + ys.length ∧ W32 os' ∧
        wv os' + 4294967296 ^ (i + j) * c = wv os + 4294967296 ^ i * (x * wv (ys.take j)) ∧
        (∀ k, i + ys.length ≤ k → k < xs.length + ys.length → os'[k]? = some 0) ∧ Sat g w' ((b, .cells (os'.map u32v).toArray 211) :: H)) ys.length
      ⟨0, 0, os, rfl, rfl, rfl, by omega, by decide, hol, how, by simp [wv], hoz, h2⟩ ?_
    rintro m y z w3 ⟨c, j, os', rfl, rfl, rfl, hj, hc, hol', how', hov', hoz', h3⟩
    try simp only [↓E1]
    rw [cnd_dec]
    constructor
    · intro hlt2
      have hlt2 : j < ys.length := by omega
      obtain ⟨q, hq⟩ := getD_some hlt2
      have hq32 := hb.at hq
      refine WS.cell hB h3 hq fun b4 o4 hc4 => ?_
      rw [h3.ldI hc4]
      try simp only [↓E1, ↓E2]
      rw [wrap_u64 (by omega), wrap_u64 (by omega), wrap64_nat (by omega)]
      obtain ⟨o, ho⟩ := getD_some (ws := os') (j := i + j) (by omega)
      have ho32 := how'.at ho
      have hcl := carry_lt hc hx32 hq32 ho32
      rw [ia_eq]
      refine ⟨by omega, by omega, ?_⟩
      rw [Int.toNat_natCast, Nat.mul_one, Nat.zero_add]
      have hld : ((os'.map u32v).getD (i + j) undef) = u32v o := by
        rw [List.getD_eq_getElem?_getD, List.getElem?_map, ho]; rfl
      rw [h3.ld0 (i + j) _ (by simp; omega), hld]
      try simp only [↓E1, ↓E2]
      rw [wrap_u64 (n := o) (by omega)]
      have e1 : (x : Int) * (q : Int) = ((x * q : Nat) : Int) := by simp
      rw [e1, wrap_u64 (n := x * q) (by omega)]
      have e2 : ((x * q : Nat) : Int) + (o : Int) = ((x * q + o : Nat) : Int) := by simp
      rw [e2, wrap_u64 (n := x * q + o) (by omega)]
      have e3 : (c : Int) + ((x * q + o : Nat) : Int) = ((c + (x * q + o) : Nat) : Int) := by simp
      rw [e3, wrap_u64 hcl, wrap_u32]
      rw [ia_eq]
      refine ⟨by omega, by omega, ?_⟩
      rw [Int.toNat_natCast, Nat.mul_one, Nat.zero_add]
      refine h3.st rfl (by simp; omega) rfl fun w4 h4 => ?_
      rw [wr_u] at h4
      rw [bH_eq]
      refine ⟨by simp [okI], ?_⟩
      try simp only [↓E1, ↓E3]
      rw [shr32, wrap64_succ (by omega)]
      refine ⟨ys.length - (j + 1), by omega, _, _, rfl, _, j + 1, _, rfl, rfl, rfl, by omega, ?_, by rw [List.length_set]; exact hol', how'.set (Nat.mod_lt _ (by decide)), ?_, ?_, h4⟩
      · omega
      · have h5 := wv_set ((c + (x * q + o)) % 4294967296) ho
        have h6 := mul_step h5 hov'
        rw [← Nat.add_assoc i j 1, Nat.pow_succ, h6, wv_take_succ hq]
        rw [Nat.pow_add, Nat.mul_add x, Nat.mul_add (4294967296 ^ i)]
        congr 2
        rw [Nat.mul_assoc, Nat.mul_left_comm x]
      · intro k hk1 hk2
        rw [List.getElem?_set_ne (by omega)]
        exact hoz' k hk1 hk2
    · intro hge
      have : j = ys.length := by omega
      subst this
      try simp only [↓E1, ↓E2]
      rw [wrap64_nat (by omega), wrap_u32, Nat.mod_eq_of_lt hc]
      rw [ia_eq]
      refine ⟨by omega, by omega, ?_⟩
      rw [Int.toNat_natCast, Nat.mul_one, Nat.zero_add]
      refine h3.st rfl (by simp; omega) rfl fun w4 h4 => ?_
      rw [wr_u] at h4
      try simp only [↓E1, ↓E3]
      rw [wrap64_succ (by omega)]
      refine ⟨xs.length - (i + 1), by omega, _, rfl, i + 1, _, rfl, rfl, by omega, by rw [List.length_set]; exact hol', how'.set hc, ?_, ?_, h4⟩
      · have h5 := wv_set c (hoz' (i + ys.length) (Nat.le_refl _) (by omega))
        rw [Nat.mul_zero, Nat.add_zero] at h5
        rw [h5, hov', List.take_of_length_le (Nat.le_refl _), hov, wv_take_succ hx, Nat.add_mul, Nat.mul_assoc]
      · intro k hk1 hk2
        rw [List.getElem?_set_ne (by omega)]
        exact hoz' k (by omega) hk2
  · intro hge
    have : i = xs.length := by omega
    subst this
    try simp only [↓E2]
    obtain ⟨g1, hg1, h3, hSl⟩ := h2.frzS (n := xs.length + ys.length) (c := xs.length + ys.length) (sz := 1) (by simp [hol]) (Nat.le_refl _)
    have hWS : WS g1 (.slice (some ⟨b, 0, none⟩) (xs.length + ys.length) (xs.length + ys.length)) os := by
      show Sl g1 1 _ os.length _
      rw [hol]; exact hSl
    refine c_trim hWS (by omega) h3 fun v' hv' => ?_
    try simp only [↓E3]
    refine hR g1 v' _ w2 hg1 hv' (how.take _) (trim_trimmed os (Nat.le_refl _)) ?_ ?_ h3
    · rw [wv_trim os (Nat.le_refl _), List.take_of_length_le (Nat.le_refl _), hov, List.take_of_length_le (Nat.le_refl _)]
    · rw [List.length_take]
      omega
theorem plus_step {W W' S p t c a b : Nat} (ht : t = c + a + b) (h1 : W' + p * 0 = W + p * (t % 4294967296)) (h2 : W + p * c = S) : W' + (p * 4294967296) * (t / 4294967296) = S + (p * a + p * b) := by
  have h := Nat.div_add_mod t 4294967296
  generalize t / 4294967296 = d at h ⊢
  generalize t % 4294967296 = r at h h1
  have e : p * (4294967296 * d) + p * r = p * c + p * a + p * b := by rw [← Nat.mul_add, h, ht, Nat.mul_add, Nat.mul_add]
  rw [Nat.mul_assoc]
  omega

theorem c_plus {va vb : Value} {xs ys : List Nat} (hA : WS g va xs) (hB : WS g vb ys) (ha : W32 xs) (hb : W32 ys) (hla : xs.length ≤ 1000000) (hlb : ys.length ≤ 1000000) (hS : Sat g w H)
    (hR : ∀ g' v' ws w', g.le g' → WS g' v' ws → W32 ws → Trimmed ws → wv ws = wv xs + wv ys → ws.length ≤ max xs.length ys.length + 1 → Sat g' w' H → R (.returned v') w') : Tr P F.whole_plus [va, vb] w R := by
  apply t_whole_plus
  unfold d_whole_plus
  refine jn2 (fun x0 x1 w' => w' = w ∧ ∃ xs' ys', WS g x0 xs' ∧ WS g x1 ys' ∧ W32 xs' ∧ W32 ys' ∧ ys'.length ≤ xs'.length ∧ xs'.length = max xs.length ys.length ∧ wv xs' + wv ys' = wv xs + wv ys) ?_ ?_
  · rintro x0 x1 w' ⟨rfl, xs', ys', hA, hB, ha, hb, hle, hmax, hsum⟩
    have hlx : xs'.length ≤ 1000000 := by omega
    obtain ⟨a1, c1, rfl, _, _, _⟩ := id hA
    obtain ⟨a2, c2, rfl, _, _, _⟩ := id hB
    simp only [↓E1, ↓E2]
    rw [wrap64_succ (by omega)]
    refine hS.mkS (by omega) (Int.le_refl _) (by omega) (by omega) fun b w1 h1 => ?_
    rw [Int.toNat_natCast, zerosV_one] at *
    have e0 : List.replicate (xs'.length + 1) (Value.int .u32 0) = (List.replicate (xs'.length + 1) 0).map u32v := by simp
    rw [e0] at h1
    try simp only [↓E1, ↓E2]
    refine lp2 (fun m y z w' => ∃ c i os, y = u64v c ∧ z = i64 ((i : Nat) : Int) ∧ m = xs'.length - i ∧ i ≤ xs'.length ∧ c ≤ 1 ∧ os.length = xs'.length + 1 ∧ W32 os ∧ wv os + 4294967296 ^ i * c = wv (xs'.take i) + wv (ys'.take i) ∧
        (∀ k, i ≤ k → k < xs'.length + 1 → os[k]? = some 0) ∧ Sat g w' ((b, .cells (os.map u32v).toArray 211) :: H)) xs'.length
      ⟨0, 0, _, rfl, rfl, rfl, by omega, by decide, List.length_replicate, W32.zeros _, by rw [wv_zeros]; simp [wv], fun k h2 h3 => by rw [List.getElem?_replicate, if_pos h3], h1⟩ ?_
    rintro m y z w2 ⟨c, i, os, rfl, rfl, rfl, hi, hc, hol, how, hov, hoz, h2⟩
    try simp only [↓E1, ↓E2]
    rw [cnd_dec]
    constructor
    · intro hlt
      have hlt : i < xs'.length := by omega
      obtain ⟨x, hx⟩ := getD_some hlt
      have hx32 := ha.at hx
      refine WS.cell hA h2 hx fun b3 o3 hc3 => ?_
      rw [h2.ldI hc3]
      try simp only [↓E1, ↓E2]
      rw [wrap_u64 (n := x) (by omega)]
      have e1 : (c : Int) + (x : Int) = ((c + x : Nat) : Int) := by simp
      rw [e1, wrap_u64 (n := c + x) (by omega)]
      refine jn1 (fun v w' => w' = w2 ∧ ∃ t y, v = u64v t ∧ t = c + x + y ∧ y < 4294967296 ∧ wv (ys'.take (i + 1)) = wv (ys'.take i) + 4294967296 ^ i * y) ?_ ?_
      · rintro v w' ⟨rfl, t, q, rfl, ht, hq, hyv⟩
        try simp only [↓E1, ↓E2]
        rw [wrap_u32]
        rw [ia_eq]
        refine ⟨by omega, by omega, ?_⟩
        rw [Int.toNat_natCast, Nat.mul_one, Nat.zero_add]
        refine h2.st rfl (by simp; omega) rfl fun w4 h4 => ?_
        rw [wr_u] at h4
        rw [bH_eq]
        refine ⟨by simp [okI], ?_⟩
        try simp only [↓E1, ↓E3]
        rw [shr32, wrap64_succ (by omega)]
        have h5 := wv_set (t % 4294967296) (hoz i (Nat.le_refl _) (by omega))
        refine ⟨xs'.length - (i + 1), by omega, _, _, rfl, _, i + 1, _, rfl, rfl, rfl, by omega, by omega, by rw [List.length_set]; exact hol, how.set (Nat.mod_lt _ (by decide)), ?_, ?_, h4⟩
        · have h6 := plus_step ht h5 hov
          rw [Nat.pow_succ, h6, wv_take_succ hx, hyv]
          omega
        · intro k hk1 hk2
          rw [List.getElem?_set_ne (by omega)]
          exact hoz k (by omega) hk2
      · intro k1 hk1
        try simp only [↓E1, ↓E2]
        rw [cnd_dec]
        constructor
        · intro hl2
          obtain ⟨q, hq⟩ := getD_some (ws := ys') (j := i) (by omega)
          have hq32 := hb.at hq
          refine WS.cell hB h2 hq fun b4 o4 hc4 => ?_
          rw [h2.ldI hc4]
          try simp only [↓E1, ↓E2, ↓E3]
          rw [wrap_u64 (n := q) (by omega)]
          have e2 : ((c + x : Nat) : Int) + (q : Int) = ((c + x + q : Nat) : Int) := by simp
          rw [e2, wrap_u64 (n := c + x + q) (by omega)]
          exact hk1 _ _ ⟨rfl, _, q, rfl, rfl, hq32, wv_take_succ hq⟩
        · intro hl2
          try simp only [↓E3]
          refine hk1 _ _ ⟨rfl, _, 0, rfl, rfl, by decide, ?_⟩
          rw [List.take_of_length_le (by omega), List.take_of_length_le (by omega)]
          omega
    · intro hge
      have : i = xs'.length := by omega
      subst this
      try simp only [↓E1, ↓E2]
      rw [wrap_u32, Nat.mod_eq_of_lt (by omega), ia_eq]
      refine ⟨by omega, by omega, ?_⟩
      rw [Int.toNat_natCast, Nat.mul_one, Nat.zero_add]
      refine h2.st rfl (by simp; omega) rfl fun w4 h4 => ?_
      rw [wr_u] at h4
      try simp only [↓E2]
      obtain ⟨g1, hg1, h3, hSl⟩ := h4.frzS (n := xs'.length + 1) (c := xs'.length + 1) (sz := 1) (by simp [hol]) (Nat.le_refl _)
      have hWS : WS g1 (.slice (some ⟨b, 0, none⟩) (xs'.length + 1) (xs'.length + 1)) (os.set xs'.length c) := by
        show Sl g1 1 _ (os.set xs'.length c).length _
        rw [List.length_set, hol]; exact hSl
      refine c_trim hWS (by rw [List.length_set]; omega) h3 fun v' hv' => ?_
      simp only [↓E3]
      refine hR g1 v' _ w4 hg1 hv' ((how.set (by omega)).take _) (trim_trimmed _ (Nat.le_refl _)) ?_ ?_ h3
      · rw [wv_trim _ (Nat.le_refl _), List.take_of_length_le (Nat.le_refl _)]
        have h5 := wv_set c (hoz xs'.length (Nat.le_refl _) (by omega))
        rw [Nat.mul_zero, Nat.add_zero] at h5
        rw [h5, hov, List.take_of_length_le (Nat.le_refl _), List.take_of_length_le hle, hsum]
      · rw [List.length_take, List.length_set]
        omega
  · intro k1 hk1
    obtain ⟨a1, c1, rfl, _, _, _⟩ := id hA
    obtain ⟨a2, c2, rfl, _, _, _⟩ := id hB
    simp only [↓E1, ↓E2, ↓E3]
    rw [cnd_dec]
    constructor
    · intro h
      exact hk1 _ _ _ ⟨rfl, ys, xs, hB, hA, hb, ha, by omega, by omega, by omega⟩
    · intro h
      exact hk1 _ _ _ ⟨rfl, xs, ys, hA, hB, ha, hb, by omega, by omega, rfl⟩
end Go.Vx
namespace Go.Vx
open Go Go.Proofs
variable {R : Ending → World → Prop} {g : G} {w : World} {H hp T : Hp}

theorem Sat.up {l : Nat} {o o' : Obj} {K : World → Prop} (h : Sat g w ((l, o) :: H)) (hk : ∀ w', Sat g w' ((l, o') :: H) → K w') : Vx.up l o o' K w := ⟨h.block (by simp), hk _ h.set⟩
theorem Sat.lk {l : Nat} {o : Obj} {p : Prop} (h : Sat g w ((l, o) :: H)) (hp : p) : Vx.lk l o p w := ⟨h.block (by simp), hp⟩
/-- Two blocks more, as a loop over a function lays them. -/
theorem Sat.new2 (h : Sat g w H) {o o2 : Obj} {w' : World} (h1 : w'.os = w.os) (h2 : w'.tape = w.tape) (h3 : w'.output = w.output) (h4 : w'.heap = (w.heap.push o2).push o) :
    Sat g w' ((w.heap.size + 1, o) :: (w.heap.size, o2) :: H) := by
  have a : Sat g { w with heap := w.heap.push o2 } ((w.heap.size, o2) :: H) := h.new rfl rfl rfl rfl
  have b := a.new (w' := w') (o := o) h1 h2 h3 h4
  have e : ({ w with heap := w.heap.push o2 } : World).heap.size = w.heap.size + 1 := by simp
  rw [e] at b
  exact b

theorem c_backward1 {bx l : Nat} {v : Value} {ws : List Nat} (J : Nat → World → Prop) (hJ : ∀ k w, J k w → ∃ g' H', WS g' v ws ∧ Sat g' w ((bx, .cells [v].toArray 209) :: H')) (hlen : ws.length ≤ 9223372036854775807) (h0 : J ws.length w)
    (hY : ∀ (k x : Nat) (w : World) (R : Ending → World → Prop), ws[k]? = some x → J (k + 1) w → (∀ w', J k w' → R (.returned (.bool true)) w') → Yl P l [i64 (k : Int), u32v x] w R)
    (hR : ∀ w', J 0 w' → R (.returned (.tuple #[])) w') : Tr P F.slices_Backward_whole_words_uint32_1 [.func (.yield l) #[] #[], ptr bx 0] w R := by
  apply t_slices_Backward_whole_words_uint32_1
  unfold d_slices_Backward_whole_words_uint32_1
  obtain ⟨g', H', hws, hS⟩ := hJ _ _ h0
  obtain ⟨a, c, rfl, _, _, _⟩ := id hws
  rw [hS.ld0 0 _ (by simp)]
  simp only [↓E1, ↓E2, ↓E3]
  rw [wrap64_of (by omega) (by omega)]
  refine lp1 (fun m x w' => m ≤ ws.length ∧ x = i64 ((m : Int) - 1) ∧ J m w') ws.length ⟨Nat.le_refl _, rfl, h0⟩ ?_
  rintro m x w2 ⟨hm, rfl, hj⟩
  obtain ⟨g2, H2, hws2, h2⟩ := hJ _ _ hj
  simp only [↓E1, ↓E2, ↓E3]
  rw [cnd_dec]
  constructor
  · intro hpos
    obtain ⟨k, rfl⟩ : ∃ k, m = k + 1 := ⟨m - 1, by omega⟩
    have e : ((k + 1 : Nat) : Int) - 1 = (k : Int) := by omega
    rw [e, h2.ld0 0 _ (by simp)]
    simp only [↓E1, ↓E2, ↓E3]
    obtain ⟨x, hx⟩ := getD_some (ws := ws) (j := k) (by omega)
    refine WS.cell hws2 h2 hx fun b o hb => ?_
    rw [h2.ldI hb, clv_yl]
    refine hY k x w2 _ hx hj fun w3 h3 => ?_
    simp only [↓E1, ↓E2, ↓E3, Bool.not_true]
    rw [wrap64_of (by omega) (by omega)]
    exact ⟨k, by omega, _, rfl, by omega, rfl, h3⟩
  · intro h
    have : m = 0 := by omega
    subst this
    exact hR _ hj

theorem n_backward1 : Enter P F.slices_Backward_whole_words_uint32_1 := ⟨Tryz.f199, Tryz.func199, by kernel_rfl, by kernel_rfl⟩

theorem c_clone {v : Value} {n : Nat} {cs : List Value} (hv : Sl g 1 v n cs) (h1 : allOne cs = true) (hn : n ≤ 140737488355328) (hS : Sat g w H)
    (hR : ∀ g' v' w', g.le g' → Sl g' 1 v' n cs → Sat g' w' H → R (.returned v') w') : Tr P F.slices_Clone_byte_byte [v] w R := by
  apply t_slices_Clone_byte_byte
  unfold d_slices_Clone_byte_byte
  obtain ⟨a, c, rfl, hc, hl, hcase⟩ := id hv
  have key : ∀ w, Sat g w H → bs 5 [Value.int .u8 0] 0 [] (fun t5 w => ap 5 1 1 [.int .u8 0] t5 (.slice a n c) (fun t7 w => R (.returned t7) w) w) w := by
    intro w hS
    refine hS.bs (cs := []) rfl fun b w1 h1' => ?_
    refine ⟨some ⟨b, 0, none⟩, 0, 0, n, cs, rfl, h1'.srcI hv, hl, h1, by omega, by omega, fun h => .inr ⟨b, 0, #[], 5, (0, 0), rfl, h1'.block (by simp), .inl rfl, ?_, ?_⟩, fun h => ⟨[], by simp, fun he => by simp at he, fun ad he => ?_, fun c' w' hc' e1 e2 e3 e4 => ?_⟩⟩
    · have : n = 0 := by omega
      subst this
      simp
    · have : n = 0 := by omega
      subst this
      have : cs = [] := List.eq_nil_of_length_eq_zero (by simpa using hl)
      subst this
      have h2 := h1'.set (o' := .cells (wr #[] (0 + 0 * 1) []) 5 (0, 0))
      obtain ⟨g1, hg1, h3, hs⟩ := Sat.frzS (b := b) (n := 0) (c := 0) (sz := 1) (cs := []) h2 rfl (Nat.le_refl _)
      exact hR g1 _ _ hg1 hs h3
    · intro j x hx; simp at hx
    · have h2 := h1'.tail.new e1 e2 e3 e4
      obtain ⟨g1, hg1, h3, hs⟩ := Sat.frzS (b := w1.heap.size) (n := c') (c := c') (sz := 1) (cs := cs ++ zerosV [.int .u8 0] (c' - (0 + n))) (by simpa using h2) (by
        rw [List.length_append, length_zerosV, hl]; simp; omega) (Nat.le_refl _)
      have h4 := Sl.take (k := n) hs (by omega)
      have e5 : (cs ++ zerosV [Value.int .u8 0] (c' - (0 + n))).take (n * 1) = cs := by
        rw [← hl, List.take_left']; rfl
      rw [e5] at h4
      have e6 : 0 + n = n := by omega
      rw [e6]
      exact hR g1 _ _ hg1 h4 h3
  rcases hcase with ⟨rfl, h2⟩ | ⟨b, o, rfl, _⟩
  · subst h2
    have : n = 0 := by simpa using hl.symm
    subst this
    rw [bN_eql (t := true) rfl rfl rfl rfl]
    simp only [↓E3]
    exact hR g _ w (.refl g) (Sl.nil g 1) hS
  · rw [bN_eql (t := false) rfl rfl rfl rfl]
    simp only [↓E3]
    exact key w hS

theorem shr_u8 (x k : Nat) (d : Nat) (kk : Int) (hkk : kk = (k : Int)) (hk : 2 ^ (min k 32) = d) : ∀ (K : Value → World → Prop) (w : World), (Vx.bH .shr .u32 (u32v x) (.int .u64 kk) (fun t w => cI .u8 t K w) w) = K (byt (UInt8.ofNat (x / d))) w := by
  intro K w
  subst hkk
  rw [bH_eq]
  have e : opI .shr .u32 (x : Int) (k : Int) = .int .u32 ((x / d : Nat) : Int) := by
    show Value.int .u32 (Int.fdiv (x : Int) (2 ^ (min (Int.toNat k) 32))) = _
    rw [Int.toNat_natCast, Int.fdiv_eq_ediv_of_nonneg _ (Int.le_of_lt (Int.pow_pos (by decide)))]
    congr 1
    rw [← hk]
    norm_cast
  rw [e, cI_eq]
  have e2 : Value.int .u8 (IntKind.u8.wrap ((x / d : Nat) : Int)) = byt (UInt8.ofNat (x / d)) := by
    show Value.int .u8 (((x / d : Nat) : Int) % 256) = Value.int .u8 (((UInt8.ofNat (x / d)).toNat : Nat) : Int)
    rw [UInt8.toNat_ofNat']
    rfl
  rw [e2]
  simp [okI]
theorem low_u8 (x : Nat) (K : Value → World → Prop) (w : World) : cI .u8 (u32v x) K w = K (byt (UInt8.ofNat x)) w := by
  rw [cI_eq]
  have e2 : Value.int .u8 (IntKind.u8.wrap (x : Int)) = byt (UInt8.ofNat x) := by
    show Value.int .u8 ((x : Int) % 256) = Value.int .u8 (((UInt8.ofNat x).toNat : Nat) : Int)
    rw [UInt8.toNat_ofNat']
    rfl
  rw [e2]

theorem c_bytes {v : Value} {ws : List Nat} (hW : WS g v ws) (h32 : W32 ws) (hlen : ws.length ≤ 1000000) (hS : Sat g w H)
    (hR : ∀ g' v' bs w', g.le g' → Sl g' 1 v' bs.length (bcs bs) → (∀ c, bs.head? = some c → c ≠ 0) → bev bs 0 = wv ws → bs.length ≤ 4 * ws.length → Sat g' w' H → R (.returned v') w') : Tr P F.whole_words_bytes [v] w R := by
  apply t_whole_words_bytes
  unfold d_whole_words_bytes
  refine hS.al fun b3 w1 h1 => ?_
  simp only [↓E2]
  refine c_trim hW (by omega) h1 fun v8 hv8 => ?_
  have hwv := wv_trim ws (Nat.le_refl _)
  rw [List.take_of_length_le (Nat.le_refl _)] at hwv
  have hlt := trimN_le ws ws.length
  generalize hts : ws.take (trimN ws ws.length) = ts at hv8 hwv
  have h32t : W32 ts := by rw [← hts]; exact h32.take _
  have hlt2 : ts.length ≤ ws.length := by rw [← hts, List.length_take]; omega
  clear hts hlt
  simp only [↓E2, ↓E3]
  apply t_slices_Backward_whole_words_uint32
  unfold d_slices_Backward_whole_words_uint32
  have e8 : v8.cells.toList = [v8] := by obtain ⟨a, c, rfl, _⟩ := hv8; rfl
  rw [e8]
  refine h1.al fun bx w2 h2 => ?_
  simp only [↓E3]
  refine ⟨_, _, rfl, n_backward1, fun o ob ox W1 e1 e2 e3 e4 hyl => ?_⟩
  have h3 := h2.new2 e1 e2 e3 e4
  generalize w2.heap.size + 1 = l at h3 hyl ⊢
  generalize w2.heap.size = D at h3 hyl ⊢
  obtain ⟨J, hJ⟩ : ∃ J : Nat → World → Prop, J = fun k W => ∃ g' v' hp, g.le g' ∧ Grow Ty.uint8 1 v' (w4s (ts.drop k)).length (bcs (w4s (ts.drop k))) hp ∧ Sat g' W ((l, o) :: (b3, .cells [v'].toArray 176) :: (hp ++ ((D, .deferred (some [])) :: (bx, .cells [v8].toArray 209) :: H))) := ⟨_, rfl⟩
  refine c_backward1 (l := l) (bx := bx) (v := v8) (ws := ts) J ?_ (by omega) ?_ ?_ ?_
  · rw [hJ]
    rintro k W ⟨g', v', hp, hg, hgr, h⟩
    exact ⟨g', _, hv8.mono hg, Sat.front (A := (l, o) :: (b3, .cells [v'].toArray 176) :: (hp ++ [(D, .deferred (some []))])) (by simpa using h)⟩
  · rw [hJ]
    refine ⟨g, .slice none 0 0, [], .refl g, ?_, ?_⟩
    · rw [List.drop_length]
      exact .nil
    · exact (Sat.front (A := [(l, _), (D, _), (bx, _)]) h3).swap2
  · intro k x W R' hx hj hk
    rw [hJ] at hj hk
    obtain ⟨g2, v2, hp2, hg2, hgr, h4⟩ := hj
    have hx32 := h32t.at hx
    have hdrop : w4s (ts.drop k) = w4s (ts.drop (k + 1)) ++ w4 x := by
      rw [← w4s_cons]
      congr 1
      rw [List.drop_eq_getElem_cons (List.getElem?_eq_some_iff.1 hx).1, (List.getElem?_eq_some_iff.1 hx).2]
    refine hyl _ W R' rfl ?_
    show Vx.lk l o _ W
    refine h4.lk ?_
    refine h4.up fun w5 h5 => ?_
    rw [shr_u8 x 24 16777216 24 rfl (by decide), shr_u8 x 16 65536 16 rfl (by decide), shr_u8 x 8 256 8 rfl (by decide), low_u8]
    refine bdI (cs := bcs (w4 x)) rfl ?_
    refine h5.al fun b6 w6 h6 => ?_
    refine h6.st (c := [.int .u8 0, .int .u8 0, .int .u8 0, .int .u8 0]) rfl (by simp) rfl fun w7 h7 => ?_
    have h7 : Sat g2 w7 ((b6, .cells (bcs (w4 x)).toArray 252) :: (l, ob) :: (b3, .cells [v2].toArray 176) :: (hp2 ++ ((D, .deferred (some [])) :: (bx, .cells [v8].toArray 209) :: H))) := h7
    have h8 := h7.drew
    try simp only [↓E2]
    rw [h8.ld2 0 _ (by simp)]
    refine ⟨b6, 0, 0, 4, 4, rfl, .inl ⟨rfl, rfl⟩, .inl ⟨rfl, rfl⟩, .inl ⟨rfl, rfl, rfl⟩, by decide, by decide, by decide, by decide, ?_⟩
    have h9 : Sat g2 w7.drew ((b6, .cells (bcs (w4 x)).toArray 252) :: (hp2 ++ ((l, ob) :: (b3, .cells [v2].toArray 176) :: (D, .deferred (some [])) :: (bx, .cells [v8].toArray 209) :: H))) :=
      h8.perm (.cons _ (List.perm_append_comm_assoc [_, _] hp2 _))
    have hl4 : (w4s (ts.drop (k + 1))).length ≤ 4 * ts.length := by
      have : ∀ a : List Nat, (w4s a).length = 4 * a.length := by
        intro a
        induction a with
        | nil => rfl
        | cons y a ih => rw [w4s_cons, List.length_append, ih]; simp [w4]; omega
      rw [this, List.length_drop]
      omega
    refine h9.ap1 (m := 4) hgr rfl (by simp [w4]) (allOne_byt _) (by omega) (by omega) fun v3 hp3 w10 hgr3 h10 => ?_
    have h11 := Sat.front (A := hp3 ++ [(l, ob)]) (x := (b3, .cells [v2].toArray 176)) (by simpa using h10)
    refine h11.st (c := [v2]) (by obtain ⟨a, c, rfl⟩ := hgr3.slice; rfl) (by obtain ⟨a, c, rfl⟩ := hgr3.slice; simp) (by obtain ⟨a, c, rfl⟩ := hgr3.slice; rfl) fun w12 h12 => ?_
    have h12 : Sat g2 w12 ((b3, .cells [v3].toArray 176) :: ((hp3 ++ [(l, ob)]) ++ ((D, .deferred (some [])) :: (bx, .cells [v8].toArray 209) :: H))) := by
      obtain ⟨a, c, rfl⟩ := hgr3.slice
      exact h12
    have h13 := Sat.front (A := (b3, .cells [v3].toArray 176) :: hp3) (x := (l, ob)) (by simpa using h12)
    refine h13.up fun w14 h14 => ?_
    refine hk _ ⟨g2, v3, hp3, hg2, ?_, h14⟩
    rw [hdrop]
    have e : (w4s (ts.drop (k + 1)) ++ w4 x).length = (w4s (ts.drop (k + 1))).length + 4 := by simp [w4]
    rw [e, show bcs (w4s (ts.drop (k + 1)) ++ w4 x) = bcs (w4s (ts.drop (k + 1))) ++ bcs (w4 x) from List.map_append]
    exact hgr3
  · intro W hj
    rw [hJ] at hj
    obtain ⟨g2, v2, hp2, hg2, hgr, h4⟩ := hj
    rw [List.drop_zero] at hgr
    simp only []
    refine h4.up fun w5 h5 => ?_
    have h6 : Sat g2 w5 (hp2 ++ ((b3, .cells [v2].toArray 176) :: (D, .deferred (some [])) :: (bx, .cells [v8].toArray 209) :: H)) :=
      (h5.tail).perm (List.perm_append_comm_assoc [_] hp2 _)
    obtain ⟨g3, hg3, h7, hsl⟩ := hgr.freeze h6
    have hbv := bev_w4s h32t 0
    rw [Nat.zero_mul, Nat.zero_add] at hbv
    have hl4 : (w4s ts).length ≤ 4 * ts.length := by
      have : ∀ a : List Nat, (w4s a).length = 4 * a.length := by
        intro a
        induction a with
        | nil => rfl
        | cons y a ih => rw [w4s_cons, List.length_append, ih]; simp [w4]; omega
      rw [this]
      omega
    generalize w4s ts = bs at hsl hbv hl4
    rw [hwv] at hbv
    refine lp0 (fun m w' => ∃ v' bs', m = bs'.length ∧ bs'.length ≤ bs.length ∧ strip bs' = strip bs ∧ Sl g3 1 v' bs'.length (bcs bs') ∧ Sat g3 w' ((b3, .cells [v'].toArray 176) :: (D, .deferred (some [])) :: (bx, .cells [v8].toArray 209) :: H)) rfl bs.length
      ⟨v2, bs, rfl, Nat.le_refl _, rfl, hsl, h7⟩ ?_
    rintro m w8 ⟨v', bs', rfl, hle, hst, hsl', h8⟩
    rw [h8.ld0 0 _ (by simp)]
    obtain ⟨a, c, rfl, hc, _, _⟩ := id hsl'
    simp only [↓E1, ↓E2, ↓E3]
    have fin : strip bs' = bs' → Tr P F.slices_Clone_byte_byte [.slice a bs'.length c] w8 (Vx.back (fun t39 w => Vx.up D (.deferred (some [])) (.deferred none) (fun w => R (.returned t39) w) w) (fun ch w => Vx.up D (.deferred (some [])) (.deferred none) (fun w => R (.panicked ch) w) w)) := by
      intro e
      refine c_clone hsl' (allOne_byt _) (by omega) h8 fun g4 v4 w9 hg4 hv4 h9 => ?_
      simp only [↓E3]
      refine h9.tail.up fun w10 h10 => ?_
      refine hR g4 v4 bs' w10 ((hg2.trans hg3).trans hg4) hv4 ?_ ?_ (by omega) h10.tail.tail
      · rw [← e]; exact strip_head _
      · rw [← e, hst, bev_strip, hbv]
    rw [cnd_dec]
    constructor
    · intro hpos
      rw [h8.ld0 0 _ (by simp)]
      simp only [↓E1, ↓E2, ↓E3]
      cases bs' with
      | nil => simp at hpos
      | cons c0 bs' =>
        refine Sl.at (j := 0) hsl' h8 (by simp) (by decide) fun b o hcell => ?_
        rw [h8.ldI (b := b) (o := o) (v := byt c0) (by simpa using hcell 0 (byt c0) rfl)]
        simp only [↓E1]
        rw [cnd_dec]
        constructor
        · intro h0
          have hc0 : c0 = 0 := by
            apply UInt8.toNat_inj.1
            have : ((c0.toNat : Nat) : Int) = 0 := h0
            simp; omega
          subst hc0
          rw [h8.ld0 0 _ (by simp)]
          simp only [↓E3]
          refine slL_lo _ _ _ _ _ _ (by decide) (by simp; omega) hc ?_
          have hf := Sl.from1 (sz := 1) hsl' (by simp) (by decide)
          have hf' : Sl g3 1 (Value.slice (if (c : Int) = 1 then a else a.map (·.add ((1 : Int).toNat * 1))) (((0 : UInt8) :: bs').length - (1 : Int).toNat) (c - (1 : Int).toNat)) bs'.length (bcs bs') := hf
          obtain ⟨v9, hv9⟩ : ∃ v9, v9 = Value.slice (if (c : Int) = 1 then a else a.map (·.add ((1 : Int).toNat * 1))) (((0 : UInt8) :: bs').length - (1 : Int).toNat) (c - (1 : Int).toNat) := ⟨_, rfl⟩
          rw [← hv9] at hf' ⊢
          refine h8.st (c := [_]) (by rw [hv9]; rfl) (by simp) (by rw [hv9]; rfl) fun w9 h9 => ?_
          try simp only [↓E3]
          refine ⟨_, by simp, trivial, v9, bs', rfl, by simp at hle; omega, ?_, hf', by rw [hv9] at h9 ⊢; exact h9⟩
          rw [← hst]
          rfl
        · intro h0
          rw [h8.ld0 0 _ (by simp)]
          try simp only [↓E2, ↓E3]
          refine fin ?_
          have hc0 : (c0 == 0) = false := by
            simp only [beq_eq_false_iff_ne]
            intro e
            subst e
            exact h0 rfl
          simp only [strip, hc0, cond_false]
    · intro h0
      rw [h8.ld0 0 _ (by simp)]
      try simp only [↓E2, ↓E3]
      refine fin ?_
      cases bs' with
      | nil => rfl
      | cons c0 bs' => simp at h0
end Go.Vx
namespace Go.Vx
open Go Go.Proofs
variable {R : Ending → World → Prop} {g : G} {w : World} {H hp T : Hp}

/-- A number's value: below nought, its bytes. -/
abbrev intV (neg : Bool) (v : Value) : Value := .agg #[.bool neg, v]

theorem c_made {neg : Bool} {v : Value} {ws : List Nat} (hW : WS g v ws) (h32 : W32 ws) (hlen : ws.length ≤ 1000000) (hS : Sat g w H)
    (hR : ∀ g' v' bs w', g.le g' → Sl g' 1 v' bs.length (bcs bs) → (∀ c, bs.head? = some c → c ≠ 0) → bev bs 0 = wv ws → bs.length ≤ 4 * ws.length → Sat g' w' H → R (.returned (intV (neg && Nat.blt 0 bs.length) v')) w') : Tr P F.whole_made [.bool neg, v] w R := by
  apply t_whole_made
  unfold d_whole_made
  refine hS.al fun b w1 h1 => ?_
  try simp only [↓E2]
  refine c_bytes hW h32 hlen h1 fun g1 v1 bs w2 hg1 hv1 hh hb hl h2 => ?_
  try simp only [↓E3]
  obtain ⟨a, c, rfl, _, _, _⟩ := id hv1
  have fin : ∀ q : Bool, q = (neg && Nat.blt 0 bs.length) → bd [.bool false, .slice none 0 0] [(0, 1, (.bool q)), (1, 1, .slice a bs.length c)] (fun t15 w => st 2 (ptr b 0) t15 (fun w => ldn 2 (ptr b 0) (fun r0 w => R (.returned r0) w) w) w) w2 := by
    intro q hq
    refine bdI (cs := [.bool q, .slice a bs.length c]) rfl ?_
    refine h2.st (c := [.bool false, .slice none 0 0]) rfl (by simp) rfl fun w3 h3 => ?_
    refine h3.ldn0 (c := [.bool q, .slice a bs.length c]) rfl ?_
    rw [hq]
    exact hR g1 _ bs w3 hg1 hv1 hh hb hl h3.tail
  rw [cnd_eq]
  constructor
  · rintro rfl
    try simp only [↓E1, ↓E2]
    refine fin _ ?_
    rw [Bool.true_and, Bool.eq_iff_iff]
    simp
  · rintro rfl
    exact fin _ rfl

theorem c_fits {neg : Bool} {v : Value} {ws : List Nat} (hW : WS g v ws) (h32 : W32 ws) (hlen : ws.length ≤ 1000000) (hS : Sat g w H)
    (hok : ∀ g' v' bs w', wv ws < 256 ^ 128 → g.le g' → Sl g' 1 v' bs.length (bcs bs) → (∀ c, bs.head? = some c → c ≠ 0) → bev bs 0 = wv ws → bs.length ≤ 128 → Sat g' w' H → R (.returned (.tuple #[intV (neg && Nat.blt 0 bs.length) v', i64 0])) w')
    (hbad : ∀ g' w', 256 ^ 128 ≤ wv ws → g.le g' → Sat g' w' H → R (.returned (.tuple #[intV false (.slice none 0 0), i64 24])) w') : Tr P F.whole_fits [.bool neg, v] w R := by
  apply t_whole_fits
  unfold d_whole_fits
  refine hS.al fun b w1 h1 => ?_
  try simp only [↓E2]
  refine c_made hW h32 hlen h1 fun g1 v1 bs w2 hg1 hv1 hh hb hl h2 => ?_
  try simp only [↓E3]
  have hbl := bytes_len hh 128
  rw [hb] at hbl
  obtain ⟨a, c, rfl, _, _, _⟩ := id hv1
  refine h2.al fun b6 w3 h3 => ?_
  refine h3.st (c := [.bool false, .slice none 0 0]) rfl (by simp) rfl fun w4 h4 => ?_
  have h4 : Sat g1 w4 ((b6, .cells [.bool (neg && Nat.blt 0 bs.length), .slice a bs.length c].toArray 178) :: (b, .cells [.bool false, .slice none 0 0].toArray 178) :: H) := h4
  try simp only [↓E1, Nat.reduceAdd]
  rw [h4.ld0 1 _ (by simp)]
  try simp only [↓E1, ↓E2, ↓E3]
  rw [cnd_dec]
  constructor
  · intro h
    refine bdI (cs := [.bool false, .slice none 0 0]) rfl ?_
    refine h4.swap2.st (c := [.bool false, .slice none 0 0]) rfl (by simp) rfl fun w5 h5 => ?_
    refine h5.ldn0 (c := [.bool false, .slice none 0 0]) rfl ?_
    exact hbad g1 w5 (hbl.1 (by omega)) hg1 h5.tail.tail
  · intro h
    refine h4.ldn0 (c := [.bool (neg && Nat.blt 0 bs.length), .slice a bs.length c]) rfl ?_
    refine h4.swap2.st (c := [.bool false, .slice none 0 0]) rfl (by simp) rfl fun w5 h5 => ?_
    refine h5.ldn0 (c := [.bool (neg && Nat.blt 0 bs.length), .slice a bs.length c]) rfl ?_
    refine hok g1 _ bs w5 ?_ hg1 hv1 hh hb (by omega) h5.tail.tail
    rcases Nat.lt_or_ge (wv ws) (256 ^ 128) with h' | h'
    · exact h'
    · have := hbl.2 h'
      omega

theorem digit_range {c : UInt8} (h : digitB c = true) : 48 ≤ c.toNat ∧ c.toNat ≤ 57 := by
  simp only [digitB, Bool.and_eq_true, decide_eq_true_eq] at h
  exact ⟨UInt8.le_iff_toNat_le.1 h.1, UInt8.le_iff_toNat_le.1 h.2⟩

/-- No byte that is no digit. -/
theorem c_odd {t : List UInt8} (hd : ∀ c ∈ t, digitB c = true) (hS : Sat g w H) (hR : ∀ w', Sat g w' H → R (.returned (i64 (-1))) w') : Tr P F.strings_IndexFunc [str t, .func (.func F.whole_Read_1) #[] #[]] w R := by
  apply t_strings_IndexFunc
  unfold d_strings_IndexFunc
  try simp only [↓E2]
  apply t_strings_indexFunc
  unfold d_strings_indexFunc
  apply hS.rgS
  intro b w' h
  refine lp1 (fun m x w => ∃ k, k ≤ t.length ∧ m = t.length - k ∧ Sat g w ((b, .stringIter ⟨t.toArray⟩ k) :: H)) t.length ⟨0, by omega, by omega, h⟩ ?_
  rintro m x w1 ⟨k, hk, rfl, h1⟩
  refine h1.nxS ?_ ?_
  · intro hlt w2 h2
    have hlt' : k < t.length := hlt
    have hget : (⟨t.toArray⟩ : ByteArray)[k]'hlt = t[k] := rfl
    have hr := digit_range (hd _ (List.getElem_mem hlt'))
    have hdec := decode_ascii ⟨t.toArray⟩ k hlt (by rw [hget]; omega)
    rw [hget] at hdec
    rw [hdec] at h2 ⊢
    try simp only [↓E1, ↓E2, ↓E3, List.append_nil, List.nil_append]
    apply t_whole_Read_1
    unfold d_whole_Read_1
    try simp only [↓E1]
    rw [cnd_dec]
    constructor
    · intro h; omega
    · intro _
      try simp only [↓E3]
      rw [bB_eql, cnd_eq]
      constructor
      · intro h
        simp only [beq_true, decide_eq_true_eq] at h
        omega
      · intro _
        try simp only [↓E3]
        exact ⟨t.length - (k + 1), by omega, x, rfl, k + 1, by omega, rfl, h2⟩
  · intro hge
    try simp only [↓E2, ↓E3]
    exact hR _ h1.tail

theorem decV_append (a b : List UInt8) (n : Nat) : decV (a ++ b) n = decV b (decV a n) := by
  induction a generalizing n with
  | nil => rfl
  | cons c a ih => exact ih _

theorem whole_ok : WholeOK := by
  intro t g w H R hne hlen hd hS hR
  apply t_whole_Read
  unfold d_whole_Read
  refine hS.al fun b2 w1 h1 => ?_
  have hone : ∀ (v : Value) n cs, Sl g 1 v n cs → one v = true := fun v n cs h => h.one
  obtain ⟨c0, t', rfl⟩ : ∃ c0 t', t = c0 :: t' := by
    cases t with
    | nil => exact absurd rfl hne
    | cons c t => exact ⟨c, t, rfl⟩
  have hc0 := digit_range (hd c0 (by simp))
  try simp only [↓E2]
  apply t_strings_CutPrefix
  unfold d_strings_CutPrefix
  try simp only [↓E2]
  apply t_internal_stringslite_CutPrefix
  unfold d_internal_stringslite_CutPrefix
  try simp only [↓E2]
  apply t_internal_stringslite_HasPrefix
  unfold d_internal_stringslite_HasPrefix
  have e45 : (Value.string { data := #[45] }) = str [45] := rfl
  rw [e45]
  try simp only [↓E1, ↓E2]
  rw [cnd_dec]
  constructor
  rotate_left
  · intro h; simp at h; omega
  intro _
  rw [sl_hi]
  refine ⟨by omega, by simp; omega, ?_⟩
  try simp only [↓E2, ↓E3]
  have hne45 : ¬ ((c0 :: t').take (Int.toNat (([45] : List UInt8).length : Int)) = [45]) := by
    show ¬ (c0 :: List.take 0 t' = [45])
    simp only [List.take_zero, List.cons.injEq, and_true]
    rintro rfl
    simp at hc0
  rw [decide_eq_false hne45]
  try simp only [↓E2, ↓E3, Bool.not_false]
  -- what is told
  have tell : ∀ (g' : G) (q : Bool) (sl : Value) (e : Int) (w' : World), g.le g' → Sat g' w' ((b2, .cells [.bool false, .slice none 0 0].toArray 178) :: H) → one sl = true → decide (e = 0) = numB (c0 :: t') →
      st 2 (ptr b2 0) (.agg #[.bool q, sl]) (fun w => ldn 2 (ptr b2 0) (fun r0 w => R (.returned (.tuple #[r0, i64 e])) w) w) w' := by
    intro g' q sl e w' hg h ho he
    refine h.st (c := [.bool false, .slice none 0 0]) rfl (by simp) (by show (one (.bool q) && (one sl && true)) = true; rw [ho]; rfl) fun w3 h3 => ?_
    refine h3.ldn0 (c := [.bool q, sl]) rfl ?_
    exact hR g' q sl e w3 hg h3.tail ho he
  refine jn1 (fun x w' => (t'.length = 0 ∨ c0 ≠ 48) ∧ Sat g w' ((b2, .cells [.bool false, .slice none 0 0].toArray 178) :: H)) ?_ ?_
  · rintro x w2 ⟨hlead, h2⟩
    have hlead' : (Nat.ble (c0 :: t').length 1 || (c0 :: t').getD 0 0 != 48) = true := by
      rcases hlead with h | h
      · simp [h]
      · simp [h]
    try simp only [↓E1, ↓E2]
    rw [cnd_dec]
    constructor
    · intro hbig
      refine bdI (cs := [.bool false, .slice none 0 0]) rfl ?_
      refine tell g false _ 24 w2 (.refl g) h2 rfl ?_
      have : Nat.ble (c0 :: t').length 400 = false := by
        cases hb : Nat.ble (c0 :: t').length 400 with
        | false => rfl
        | true => have := Nat.le_of_ble_eq_true hb; omega
      rw [numB, this]
      simp
    intro hsmall
    have h400 : Nat.ble (c0 :: t').length 400 = true := Nat.ble_eq_true_of_le (by omega)
    have h400' : (c0 :: t').length ≤ 400 := by omega
    refine h2.cSB fun bt c w3 hc h3 => ?_
    have earr : (((c0 :: t').map byt).toArray ++ Array.replicate (c - (c0 :: t').length) (Value.int .u8 0)) = (bcs (c0 :: t') ++ List.replicate (c - (c0 :: t').length) (Value.int .u8 0)).toArray := by
      apply Array.ext'; simp
    rw [earr] at h3
    try simp only [↓E2]
    refine lp2 (fun m x y w' => ∃ g' ws i, y = i64 ((i : Nat) : Int) ∧ m = (c0 :: t').length - i ∧ i ≤ (c0 :: t').length ∧ g.le g' ∧ WS g' x ws ∧ W32 ws ∧ wv ws = decV ((c0 :: t').take i) 0 ∧ ws.length ≤ 3 * i ∧
        Sat g' w' ((bt, .cells (bcs (c0 :: t') ++ List.replicate (c - (c0 :: t').length) (Value.int .u8 0)).toArray 5 (c, c + 1)) :: (b2, .cells [.bool false, .slice none 0 0].toArray 178) :: H)) (c0 :: t').length
      ⟨g, [], 0, rfl, rfl, by omega, .refl g, Sl.nil g 1, W32.nil, rfl, by simp, h3⟩ ?_
    rintro m x y w4 ⟨g4, ws, i, rfl, rfl, hi, hg4, hws, h32, hval, hwl, h4⟩
    try simp only [↓E1]
    rw [cnd_dec]
    constructor
    · intro hlt
      have hlt : i < (c0 :: t').length := by omega
      rw [ia_eq]
      refine ⟨by omega, by omega, ?_⟩
      rw [Int.toNat_natCast, Nat.mul_one, Nat.zero_add]
      obtain ⟨ci, hci⟩ : ∃ ci, (c0 :: t')[i]? = some ci := ⟨_, List.getElem?_eq_getElem hlt⟩
      have hcd := digit_range (hd ci (List.mem_of_getElem? hci))
      have hget : (bcs (c0 :: t') ++ List.replicate (c - (c0 :: t').length) (Value.int .u8 0)).getD i undef = byt ci := by
        rw [List.getD_eq_getElem?_getD, List.getElem?_append_left (by simpa using hlt), List.getElem?_map, hci]
        rfl
      rw [h4.ld0 i _ (by simp; omega), hget]
      refine h4.bs (cs := [.int .u32 10]) rfl fun b46 w5 h5 => ?_
      obtain ⟨g5, hg5, h5', hs5⟩ := h5.frzS (n := 1) (c := 1) (sz := 1) rfl (Nat.le_refl _)
      have hws5 : WS g5 (.slice (some ⟨b46, 0, none⟩) 1 1) [10] := hs5
      try simp only [↓E2]
      refine c_times (hws.mono hg5) hws5 h32 (fun x hx => by simp at hx; subst hx; decide) (by omega) (by simp) h5' fun g6 v6 ws6 w6 hg6 hv6 h326 _ hval6 hl6 h6 => ?_
      try simp only [↓E1, ↓E2, ↓E3]
      have e48 : IntKind.u32.wrap (IntKind.u8.wrap ((ci.toNat : Int) - 48)) = ((ci.toNat - 48 : Nat) : Int) := by
        have e1 : IntKind.u8.wrap ((ci.toNat : Int) - 48) = ((ci.toNat - 48 : Nat) : Int) := by
          show ((ci.toNat : Int) - 48) % 256 = _
          omega
        rw [e1, wrap_u32]
        congr 1
        omega
      rw [e48]
      refine h6.bs (cs := [u32v (ci.toNat - 48)]) rfl fun b51 w7 h7 => ?_
      obtain ⟨g7, hg7, h7', hs7⟩ := h7.frzS (n := 1) (c := 1) (sz := 1) rfl (Nat.le_refl _)
      have hws7 : WS g7 (.slice (some ⟨b51, 0, none⟩) 1 1) [ci.toNat - 48] := hs7
      have h32d : W32 [ci.toNat - 48] := fun x hx => by simp at hx; omega
      try simp only [↓E2]
      refine c_trim hws7 (by simp) h7' fun v8 hv8 => ?_
      try simp only [↓E2, ↓E3]
      have hwt := wv_trim [ci.toNat - 48] (Nat.le_refl _)
      have hlt1 : ([ci.toNat - 48].take (trimN [ci.toNat - 48] [ci.toNat - 48].length)).length ≤ 1 := by
        rw [List.length_take]
        simp
        omega
      refine c_plus (hv6.mono hg7) hv8 h326 (h32d.take _) (by simp at hl6; omega) (by omega) h7' fun g9 v9 ws9 w9 hg9 hv9 h329 _ hval9 hl9 h9 => ?_
      try simp only [↓E3]
      rw [wrap64_succ (by omega)]
      refine ⟨(c0 :: t').length - (i + 1), by omega, _, _, rfl, g9, ws9, i + 1, rfl, rfl, by omega, ((hg4.trans hg5).trans (hg6.trans hg7)).trans hg9, hv9, h329, ?_, ?_, h9⟩
      · rw [hval9, hval6, hwt, List.take_of_length_le (Nat.le_refl _)]
        rw [List.take_add_one, hci]
        simp only [Option.toList_some]
        rw [decV_append, hval]
        simp [wv, decV]
      · simp only [List.length_cons, List.length_nil] at hl6
        omega
    · intro hge
      have : i = (c0 :: t').length := by omega
      subst this
      try simp only [↓E2]
      rw [List.take_of_length_le (Nat.le_refl _)] at hval
      refine c_fits hws h32 (by omega) h4 (fun g5 v5 bs w5 hlt hg5 hv5 _ _ _ h5 => ?_) (fun g5 w5 hge hg5 h5 => ?_)
      · simp only [↓E2, ↓E3]
        refine tell g5 _ _ 0 w5 (hg4.trans hg5) h5.tail hv5.one ?_
        rw [hval] at hlt
        have : Nat.blt (decV (c0 :: t') 0) (256 ^ 128) = true := by rw [Nat.blt_eq]; exact hlt
        rw [numB, hlead', h400, this]
        rfl
      · simp only [↓E2, ↓E3]
        refine tell g5 _ _ 24 w5 (hg4.trans hg5) h5.tail rfl ?_
        rw [hval] at hge
        have : Nat.blt (decV (c0 :: t') 0) (256 ^ 128) = false := by
          cases hb : Nat.blt (decV (c0 :: t') 0) (256 ^ 128) with
          | false => rfl
          | true => rw [Nat.blt_eq] at hb; omega
        rw [numB, this, Bool.and_false]
        rfl
  · intro k1 hk1
    try simp only [↓E2, ↓E3]
    rw [cnd_dec]
    constructor
    · intro h; simp at h
    intro _
    refine c_odd hd h1 fun w2 h2 => ?_
    try simp only [↓E1, ↓E2, ↓E3]
    rw [cnd_dec]
    constructor
    · intro h; omega
    intro _
    refine ⟨by omega, c0, rfl, ?_⟩
    try simp only [↓E1]
    rw [cnd_dec]
    constructor
    · intro h48
      have h48' : c0 = 48 := by
        apply UInt8.toNat_inj.1
        have : ((c0.toNat : Nat) : Int) = 48 := h48
        show c0.toNat = 48
        omega
      try simp only [↓E1, ↓E2]
      rw [cnd_dec]
      constructor
      · intro h
        refine bdI (cs := [.bool false, .slice none 0 0]) rfl ?_
        refine tell g false _ 11 w2 (.refl g) h2 rfl ?_
        have : (Nat.ble (c0 :: t').length 1 || (c0 :: t').getD 0 0 != 48) = false := by
          rw [h48']
          cases t' with
          | nil => simp at h
          | cons c1 t' => rfl
        rw [numB, this]
        rfl
      · intro h
        try simp only [↓E3]
        refine hk1 _ _ ⟨.inl ?_, h2⟩
        rw [List.length_cons] at h
        omega
    · intro h48
      try simp only [↓E3]
      refine hk1 _ _ ⟨.inr ?_, h2⟩
      rintro rfl
      exact h48 rfl
end Go.Vx
namespace Go.Vx
open Go Go.Proofs
variable {R : Ending → World → Prop} {g : G} {w : World} {H hp T : Hp}

/-- All cells of a block are written. -/
theorem st_all {b n : Nat} {t : TypeId} {c c2 : List Value} (h : Sat g w ((b, .cells c2.toArray t) :: H)) (hc : c.length = n) (hc2 : c2.length = n) (h1 : allOne c = true) {K : World → Prop} (hk : ∀ w', Sat g w' ((b, .cells c.toArray t) :: H) → K w') : st n (ptr b 0) (.agg c.toArray) K w := by
  refine h.st (c := c2) (v := .agg c.toArray) (by simp [Value.cells, hc]) (by omega) (by simpa [Value.cells] using h1) fun w6 h6 => ?_
  have e : wr c2.toArray 0 (Value.agg c.toArray).cells.toList = c.toArray := by
    have := wr0 c c2 (by omega)
    simp only [Value.cells]
    rw [this, List.drop_eq_nil_of_le (by omega)]
    simp
  rw [e] at h6
  exact hk w6 h6

/-- One cell of a block is written. -/
theorem st_one {b o : Nat} {t : TypeId} {c : List Value} {v : Value} (h : Sat g w ((b, .cells c.toArray t) :: H)) (hv : v.cells = #[v]) (h1 : one v = true) (ho : o < c.length) {K : World → Prop} (hk : ∀ w', Sat g w' ((b, .cells (c.set o v).toArray t) :: H) → K w') : st 1 (ptr b o) v K w := by
  refine h.st (c := c) (v := v) (by rw [hv]; rfl) (by omega) (by rw [hv]; simp [allOne, h1]) fun w6 h6 => ?_
  have e : wr c.toArray o v.cells.toList = (c.set o v).toArray := by rw [hv]; simp [wr]
  rw [e] at h6
  exact hk w6 h6

/-- Texts of the program's. -/
abbrev SS (g : G) (v : Value) (l : List (List UInt8)) : Prop := Sl g 1 v l.length (l.map str)
theorem SS.cell {v : Value} {n : Nat} {l : List (List UInt8)} (hT : Sl g 1 v n (l.map str)) (hS : Sat g w H) {k : IntKind} {j : Nat} {x : List UInt8} (hj : l[j]? = some x) {K : Value → World → Prop}
    (hk : ∀ b o, g.cell? b o = some (str x) → K (ptr b o) w) : ia 1 v (.int k (j : Int)) K w := by
  have hn : l.length = n := by obtain ⟨_, _, _, _, h3, _⟩ := hT; simpa using h3
  refine Sl.at hT hS (by rw [← hn]; exact (List.getElem?_eq_some_iff.1 hj).1) (by decide) fun b o h => hk b o ?_
  have := h 0 (str x) (by
    rw [Nat.mul_one, List.getElem?_take]
    simp [hj])
  simpa using this

theorem idxT_drop {t : List UInt8} {l : List (List UInt8)} {k : Nat} {x : List UInt8} (h : l[k]? = some x) : idxT t (l.drop k) k = bif x == t then some k else idxT t (l.drop (k + 1)) (k + 1) := by
  have hlt := (List.getElem?_eq_some_iff.1 h).1
  rw [List.drop_eq_getElem_cons hlt]
  have := (List.getElem?_eq_some_iff.1 h).2
  rw [this]
  rfl

theorem c_index {v : Value} {l : List (List UInt8)} {t : List UInt8} (hv : SS g v l) (hl : l.length ≤ 4611686018427387904) (hS : Sat g w H)
    (hR : R (.returned (i64 (idxI (idxT t l 0)))) w) : Tr P F.slices_Index_string_string [v, str t] w R := by
  apply t_slices_Index_string_string
  unfold d_slices_Index_string_string
  obtain ⟨a, c, rfl, _, _, _⟩ := id hv
  simp only [↓E2]
  refine lp2 (fun m x y w' => w' = w ∧ ∃ k, y = i64 ((k : Nat) : Int) ∧ m = l.length - k ∧ k ≤ l.length ∧ idxT t (l.drop k) k = idxT t l 0) l.length ⟨rfl, 0, rfl, rfl, by omega, rfl⟩ ?_
  rintro m x y w' ⟨rfl, k, rfl, rfl, hk, hi⟩
  simp only [↓E1]
  rw [cnd_dec]
  constructor
  · intro hlt
    obtain ⟨x, hx⟩ : ∃ x, l[k]? = some x := ⟨_, List.getElem?_eq_getElem (by omega)⟩
    refine SS.cell hv hS hx fun b o hb => ?_
    rw [hS.ldI hb]
    simp only [↓E2]
    rw [idxT_drop hx] at hi
    rw [cnd_dec]
    constructor
    · rintro rfl
      rw [beq_self_eq_true, cond_true] at hi
      rw [← hi] at hR
      exact hR
    · intro hne
      have : (x == t) = false := beq_eq_false_iff_ne.2 (fun e => hne e.symm)
      rw [this, cond_false] at hi
      simp only [↓E1, ↓E3]
      rw [wrap64_succ (by omega)]
      exact ⟨l.length - (k + 1), by omega, _, _, rfl, trivial, k + 1, rfl, rfl, by omega, hi⟩
  · intro hge
    have : k = l.length := by omega
    subst this
    rw [List.drop_length] at hi
    rw [← hi] at hR
    exact hR

theorem idxT_contains {t : List UInt8} {l : List (List UInt8)} (k : Nat) : (idxT t l k).isSome = l.contains t := by
  induction l generalizing k with
  | nil => rfl
  | cons x l ih =>
    simp only [idxT, List.contains_cons]
    rw [Bool.beq_comm]
    cases t == x
    · simpa using ih (k + 1)
    · rfl

theorem c_contains {v : Value} {l : List (List UInt8)} {t : List UInt8} (hv : SS g v l) (hl : l.length ≤ 4611686018427387904) (hS : Sat g w H)
    (hR : R (.returned (.bool (l.contains t))) w) : Tr P F.slices_Contains_string_string [v, str t] w R := by
  apply t_slices_Contains_string_string
  unfold d_slices_Contains_string_string
  simp only [↓E2]
  refine c_index hv hl hS ?_
  simp only [↓E1, ↓E3]
  rw [← idxT_contains 0] at hR
  cases h : idxT t l 0 with
  | none => rw [h] at hR; exact hR
  | some k =>
    rw [h] at hR
    have : decide ((0 : Int) ≤ idxI (some k)) = true := by simp [idxI]
    rw [this]
    exact hR

/-- A use's cells. -/
def useC (u : Use) : List Value := [i64 (u.pos : Int), str u.name, i64 u.kind, i64 (u.depth : Int), i64 (u.index : Int), .bool u.write]
abbrev ubx (u : Use) : Obj := .cells (useC u).toArray Ty.scope_Use
def use0 : Use := ⟨0, [], 0, 0, 0, false⟩
/-- What is always the same. -/
def fixU (t : List UInt8) : Use := match fixedS t with | some (k, i) => ⟨0, t, k, 0, i, false⟩ | none => ⟨0, t, 0, 0, 0, false⟩

theorem c_fixed {t : List UInt8} (hS : Sat g w H)
    (hR : ∀ w', Sat g w' H → R (.returned (.tuple #[.agg (useC (fixU t)).toArray, .bool (fixedS t).isSome])) w') : Tr P F.scope_fixed [str t] w R := by
  apply t_scope_fixed
  unfold d_scope_fixed
  refine hS.al fun b2 w1 h1 => ?_
  refine bdI (cs := useC ⟨0, t, 0, 0, 0, false⟩) rfl ?_
  refine h1.al fun b4 w2 h2 => ?_
  have h2 : Sat g w2 ((b4, ubx use0) :: (b2, ubx use0) :: H) := h2
  refine st_all (c := useC ⟨0, t, 0, 0, 0, false⟩) (c2 := useC use0) h2 rfl rfl rfl fun w3 h3 => ?_
  -- what is told
  have fin : ∀ (u : Use) (q : Bool) (w' : World), Sat g w' ((b4, ubx u) :: (b2, ubx use0) :: H) → (∀ w', Sat g w' H → R (.returned (.tuple #[.agg (useC u).toArray, .bool q])) w') →
      ldn 6 (ptr b4 0) (fun t25 w => st 6 (ptr b2 0) t25 (fun w => ldn 6 (ptr b2 0) (fun r0 w => R (.returned (.tuple #[r0, (.bool q)])) w) w) w) w' := by
    intro u q w' h hr
    refine h.ldn0 (c := useC u) rfl ?_
    refine st_all (c := useC u) (c2 := useC use0) h.swap2 rfl rfl rfl fun w4 h4 => ?_
    refine h4.ldn0 (c := useC u) rfl ?_
    exact hr w4 h4.tail.tail
  have e1 : (Value.string { data := #[115, 101, 108, 102] }) = str selfT := rfl
  have e2 : (Value.string { data := #[115, 117, 112, 101, 114] }) = str superT := rfl
  have e3 : (Value.string { data := #[110, 105, 108] }) = str nilT := rfl
  have e4 : (Value.string { data := #[102, 97, 108, 115, 101] }) = str falseT := rfl
  have e5 : (Value.string { data := #[116, 114, 117, 101] }) = str trueT := rfl
  rw [e1, e2, e3, e4, e5]
  unfold fixU fixedS at hR
  simp only [↓E1, ↓E2, ↓E3]
  rw [cnd_dec]
  constructor
  · intro h
    rw [beq_iff_eq.2 h] at hR
    exact fin _ _ w3 h3 hR
  intro h
  rw [beq_eq_false_iff_ne.2 h] at hR
  clear h
  rw [cnd_dec]
  constructor
  · intro h
    rw [beq_iff_eq.2 h] at hR
    refine st_one h3 rfl rfl (by simp [useC]) fun w4 h4 => ?_
    exact fin ⟨0, t, (1 : Nat), 0, 0, false⟩ _ w4 h4 hR
  intro h
  rw [beq_eq_false_iff_ne.2 h] at hR
  clear h
  rw [cnd_dec]
  constructor
  · intro h
    rw [beq_iff_eq.2 h] at hR
    refine st_one h3 rfl rfl (by simp [useC]) fun w4 h4 => ?_
    exact fin ⟨0, t, (2 : Nat), 0, 0, false⟩ _ w4 h4 hR
  intro h
  rw [beq_eq_false_iff_ne.2 h] at hR
  clear h
  rw [cnd_dec]
  constructor
  · intro h
    rw [beq_iff_eq.2 h] at hR
    refine st_one h3 rfl rfl (by simp [useC]) fun w4 h4 => ?_
    refine st_one h4 rfl rfl (by simp [useC]) fun w5 h5 => ?_
    exact fin ⟨0, t, (2 : Nat), 0, 1, false⟩ _ w5 h5 hR
  intro h
  rw [beq_eq_false_iff_ne.2 h] at hR
  clear h
  rw [cnd_dec]
  constructor
  · intro h
    rw [beq_iff_eq.2 h] at hR
    refine st_one h3 rfl rfl (by simp [useC]) fun w4 h4 => ?_
    refine st_one h4 rfl rfl (by simp [useC]) fun w5 h5 => ?_
    exact fin ⟨0, t, (2 : Nat), 0, 2, false⟩ _ w5 h5 hR
  intro h
  rw [beq_eq_false_iff_ne.2 h] at hR
  exact fin _ _ w3 h3 hR
end Go.Vx
namespace Go.Vx
open Go Go.Proofs
variable {R : Ending → World → Prop} {g : G} {w : World} {H hp T : Hp}

theorem patL_nout : ∀ (f : Nat) (t : List UInt8) (ns : List (List UInt8)) (l : List Tok), l.length < f → patL f t ns l ≠ .out := by
  intro f
  induction f with
  | zero => intro t ns l h; omega
  | succ f ih =>
    intro t ns l h
    simp only [patL]
    cases hb : Nat.beq (kd l) 2
    · simp
    · have hlt := tk_lt hb (by decide)
      have hle := tk_le (tk l)
      simp only [cond_true, needS]
      cases Nat.beq (kd (tk l)) 1
      · simp [syn, Res.andThen]
      · simp only [cond_true, Res.andThen]
        exact ih _ _ _ (by omega)
theorem patS_nout (l : List Tok) : patS l ≠ .out := by
  unfold patS
  cases Nat.beq (kd l) 1
  · cases Nat.beq (kd l) 3
    · cases Nat.beq (kd l) 2
      · simp [syn]
      · simp only [cond_true, cond_false, needS]
        cases Nat.beq (kd (tk l)) 1
        · simp [syn, Res.andThen]
        · simp only [cond_true, Res.andThen]
          have := patL_nout ((tk (tk l)).length + 1) (hd l).text [(hd (tk l)).text] (tk (tk l)) (by omega)
          split
          · rename_i h; exact absurd h this
          · simp
          · simp
    · simp only [cond_true, cond_false, needS]
      cases Nat.beq (kd (tk l)) 1
      · simp [syn, Res.andThen]
      · simp [Res.andThen]
  · simp
theorem patL_ok : ∀ (f : Nat) {t : List UInt8} {ns : List (List UInt8)} {l l' : List Tok} {x : List UInt8 × List (List UInt8)}, patL f t ns l = .ok x l' → l'.length ≤ l.length := by
  intro f
  induction f with
  | zero => intro t ns l l' x h; simp [patL] at h
  | succ f ih =>
    intro t ns l l' x h
    simp only [patL] at h
    rcases cond_or h with ⟨_, h⟩ | ⟨_, h⟩
    · obtain ⟨a, l1, h1, h2⟩ := andThen_ok h
      obtain ⟨_, _, rfl⟩ := need_ok h1
      have := ih h2
      have h3 := tk_le (tk l)
      have h4 := tk_le l
      omega
    · injection h with _ h
      subst h
      exact Nat.le_refl _
theorem patS_ok {l l' : List Tok} {n : Node} (h : patS l = .ok n l') : l'.length ≤ l.length ∧ ∃ t nn names, n = .mk 12 t 0 nn names [] := by
  unfold patS at h
  have h4 := tk_le l
  have h5 := tk_le (tk l)
  rcases cond_or h with ⟨_, h⟩ | ⟨_, h⟩
  · injection h with h1 h2
    subst h1 h2
    exact ⟨h4, _, _, _, rfl⟩
  rcases cond_or h with ⟨_, h⟩ | ⟨_, h⟩
  · obtain ⟨a, l1, h1, h2⟩ := andThen_ok h
    obtain ⟨_, _, rfl⟩ := need_ok h1
    injection h2 with h2 h3
    subst h2 h3
    exact ⟨by omega, _, _, _, rfl⟩
  rcases cond_or h with ⟨_, h⟩ | ⟨_, h⟩
  · obtain ⟨a, l1, h1, h2⟩ := andThen_ok h
    obtain ⟨_, _, rfl⟩ := need_ok h1
    obtain ⟨x, l2, h3, h4⟩ := andThen_ok h2
    have := patL_ok _ h3
    injection h4 with h4 h5
    subst h4 h5
    exact ⟨by omega, _, _, _, rfl⟩
  · simp [syn] at h

/-- A pattern's box, and what lies behind it. -/
abbrev mbx (t : List UInt8) (nn : Nat) (nv : Value) : Obj := box [i64 ((12 : Nat) : Int), str t, i64 ((0 : Nat) : Int), i64 (nn : Int), nv, .slice none 0 0]

theorem c_parg {p nb b2 b3 : Nat} {l : List Tok} {v nv : Value} {t : List UInt8} {names : List (List UInt8)} {hpn : Hp} (hl : WFL l) (hT : TS g v l) (hnl : names.length ≤ 5000) (hgn : Grow Ty.string 1 nv names.length (names.map str) hpn)
    (hS : Sat g w ((p, prs v 0) :: (nb, mbx t 0 nv) :: (hpn ++ ((b3, .cells [ptr nb 0].toArray 71) :: (b2, .cells [ptr p 0].toArray 70) :: H))))
    (hok : ∀ v' nv' hpn' w', needS 1 l = .ok (hd l) (tk l) → TS g v' (tk l) → Grow Ty.string 1 nv' (names ++ [(hd l).text]).length ((names ++ [(hd l).text]).map str) hpn' →
      Sat g w' ((p, prs v' 0) :: (nb, mbx t 0 nv') :: (hpn' ++ ((b3, .cells [ptr nb 0].toArray 71) :: (b2, .cells [ptr p 0].toArray 70) :: H))) → R (.returned (.tuple #[])) w')
    (hbad : ∀ w', needS 1 l = .bad (hd l).pos 20 → Sat g w' ((p, prs v 0) :: (nb, mbx t 0 nv) :: (hpn ++ ((b3, .cells [ptr nb 0].toArray 71) :: (b2, .cells [ptr p 0].toArray 70) :: H))) → R (.panicked (stopE (hd l).pos 20)) w') :
    Tr P F.tree_parser_pattern_1 [ptr b3 0, ptr b2 0] w R := by
  apply t_tree_parser_pattern_1
  unfold d_tree_parser_pattern_1
  have h1 := hS.drew
  have m3 : (b3, Obj.cells [ptr nb 0].toArray 71) ∈ ((p, prs v 0) :: (nb, mbx t 0 nv) :: (hpn ++ ((b3, .cells [ptr nb 0].toArray 71) :: (b2, .cells [ptr p 0].toArray 70) :: H))) := by simp
  have m2 : (b2, Obj.cells [ptr p 0].toArray 70) ∈ ((p, prs v 0) :: (nb, mbx t 0 nv) :: (hpn ++ ((b3, .cells [ptr nb 0].toArray 71) :: (b2, .cells [ptr p 0].toArray 70) :: H))) := by simp
  try simp only [↓E1, ↓E2, ↓E3, Nat.reduceAdd]
  rw [h1.ldH m3 0 _ (by simp)]
  try simp only [↓E1, ↓E2, ↓E3, Nat.reduceAdd]
  rw [h1.ldH m3 0 _ (by simp)]
  try simp only [↓E1, ↓E2, ↓E3, Nat.reduceAdd]
  rw [h1.ld1 4 _ (by simp)]
  try simp only [↓E1, ↓E2, ↓E3, Nat.reduceAdd]
  rw [h1.ldH m2 0 _ (by simp)]
  try simp only [↓E1, ↓E2, ↓E3, Nat.reduceAdd]
  refine c_need (k := 1) hl hT h1 (fun v' w2 hn hT2 h2 => ?_) (fun w2 hn h2 => ?_)
  · try simp only [↓E1, ↓E2, ↓E3, Nat.reduceAdd, fl_tok]
    have rk1 : ∀ {X : Prop} {w' : World} {A : Hp}, Sat g w' (A ++ ((p, prs v' 0) :: (nb, mbx t 0 nv) :: (hpn ++ ((b3, .cells [ptr nb 0].toArray 71) :: (b2, .cells [ptr p 0].toArray 70) :: H)))) → X → Vx.rk false (ptr nb 4) nv (Vx.rk false (ptr b3 0) (ptr nb 0) (Vx.rk false (ptr b3 0) (ptr nb 0) X w') w') w' := by
      intro X w' A h hx
      refine h.rk (b := nb) (t := 50) (fr := (0, 0)) (c := [i64 ((12 : Nat) : Int), str t, i64 ((0 : Nat) : Int), i64 ((0 : Nat) : Int), nv, .slice none 0 0]) (by simp) rfl ?_
      refine h.rk (b := b3) (t := 71) (fr := (0, 0)) (c := [ptr nb 0]) (by simp) rfl ?_
      exact h.rk (b := b3) (t := 71) (fr := (0, 0)) (c := [ptr nb 0]) (by simp) rfl hx
    refine rk1 (A := []) h2 ?_
    refine h2.bs (cs := [str (hd l).text]) rfl fun b8 w3 h3 => ?_
    refine rk1 (A := [(b8, _)]) h3 ?_
    have h6 := Sat.pull1 (A := [(p, _), (nb, _)]) h3
    refine Sat.ap1 (m := 1) (c := 1) h6 hgn rfl rfl rfl (by omega) (by omega) fun nv' hp2 w7 hg7 h7 => ?_
    have h8 := Sat.swap2 (Sat.pull (A := hp2) (hp := [(p, _), (nb, _)]) h7)
    refine h8.rk (b := b3) (t := 71) (fr := (0, 0)) (c := [ptr nb 0]) (by simp) rfl ?_
    try simp only [↓E1, ↓E2, ↓E3, Nat.reduceAdd]
    have u : nv'.cells = #[nv'] ∧ one nv' = true := by obtain ⟨a, c, rfl⟩ := hg7.slice; exact ⟨rfl, rfl⟩
    refine st_one h8 u.1 u.2 (by simp) fun w9 h9 => ?_
    simp only [List.set_cons_succ, List.set_cons_zero] at h9
    refine hok v' nv' hp2 w9 hn hT2 ?_ h9.swap2
    simpa using hg7
  · try simp only [↓E3]
    exact hbad w2 hn h2

theorem head_method : HeadOK F.tree_parser_pattern patS := by
  intro p nb l v g w H R hl hT hS hno hok hbad
  apply t_tree_parser_pattern
  unfold d_tree_parser_pattern
  have hl97 := hl.len
  have htl := tk_le l
  refine hS.al fun b2 w1 h1 => h1.al fun b3 w2 h2 => ?_
  clear h1 hS
  have h2 : Sat g w2 ((p, prs v 0) :: (nb, mbx [] 0 (.slice none 0 0)) :: ([] ++ ((b3, .cells [ptr nb 0].toArray 71) :: (b2, .cells [ptr p 0].toArray 70) :: H))) := by
    have h2 : Sat g w2 ([(b3, Obj.cells [ptr nb 0].toArray 71), (b2, Obj.cells [ptr p 0].toArray 70)] ++ ([(p, prs v 0), (nb, mbx [] 0 (.slice none 0 0))] ++ H)) := h2
    exact h2.perm (List.perm_append_comm_assoc _ _ H)
  -- memory, as it is ahead of and behind words
  obtain ⟨M, hM⟩ : ∃ M : Value → List UInt8 → Value → Hp → Hp, M = fun v' t nv hpn => (p, prs v' 0) :: (nb, mbx t 0 nv) :: (hpn ++ ((b3, .cells [ptr nb 0].toArray 71) :: (b2, .cells [ptr p 0].toArray 70) :: H)) := ⟨_, rfl⟩
  have m2 : ∀ (v' : Value) (t : List UInt8) (nv : Value) (hpn : Hp), (b2, Obj.cells [ptr p 0].toArray 70) ∈ M v' t nv hpn := by intro v' t nv hpn; rw [hM]; simp
  have m3 : ∀ (v' : Value) (t : List UInt8) (nv : Value) (hpn : Hp), (b3, Obj.cells [ptr nb 0].toArray 71) ∈ M v' t nv hpn := by intro v' t nv hpn; rw [hM]; simp
  have settext : ∀ {g' : G} {w' : World} {v' : Value} {t t' : List UInt8} {nv : Value} {hpn : Hp} {K : World → Prop}, Sat g' w' (M v' t nv hpn) → (∀ w3, Sat g' w3 (M v' t' nv hpn) → K w3) → st 1 (ptr nb 1) (str t') K w' := by
    intro g' w' v' t t' nv hpn K h hk
    rw [hM] at h
    refine st_one h.swap2 rfl rfl (by simp) fun w3 h3 => ?_
    simp only [List.set_cons_succ, List.set_cons_zero] at h3
    refine hk w3 ?_
    rw [hM]
    exact h3.swap2
  have stop : ∀ {g' : G} {w' : World} {v' : Value} {t : List UInt8} {nv : Value} {hpn : Hp} {q e : Nat}, patS l = .bad q e → g.le g' → Sat g' w' (M v' t nv hpn) → R (.panicked (stopE q e)) w' := by
    intro g' w' v' t nv hpn q e hb hg h
    rw [hM] at h
    have h3 : Sat g' w' ((p, prs v' 0) :: (nb, mbx t 0 nv) :: (hpn ++ H)) := by
      have h4 := h.perm ((List.Perm.cons _ (List.Perm.cons _ (List.perm_append_comm_assoc hpn [(b3, .cells [ptr nb 0].toArray 71), (b2, .cells [ptr p 0].toArray 70)] H))))
      exact Sat.drop2 (A := [(b3, _), (b2, _)]) h4
    exact hbad q e hb g' v' 0 _ hpn w' hg h3 rfl
  have h2 : Sat g w2 (M v [] (.slice none 0 0) []) := by rw [hM]; exact h2
  refine jn0 (fun w' => ∃ g' v' t nv names hpn l', patS l = .ok (.mk 12 t 0 names.length names []) l' ∧ g.le g' ∧ TS g' v' l' ∧ WFL l' ∧ l'.length ≤ l.length ∧ names.length + l'.length ≤ 5000 ∧ Grow Ty.string 1 nv names.length (names.map str) hpn ∧ Sat g' w' (M v' t nv hpn)) ?_ ?_
  · rintro w3 ⟨g3, v3, t, nv, names, hpn, l', hp, hg3, hT3, hl3, hle, hnl, hgn, h3⟩
    have h4 := h3.drew
    try simp only [↓E1, ↓E2, ↓E3, Nat.reduceAdd]
    rw [h4.ldH (m3 _ _ _ _) 0 _ (by simp)]
    try simp only [↓E1, ↓E2, ↓E3, Nat.reduceAdd]
    rw [h4.ldH (m3 _ _ _ _) 0 _ (by simp)]
    try simp only [↓E1, ↓E2, ↓E3, Nat.reduceAdd]
    rw [hM] at h4
    rw [h4.ld1 4 _ (by simp)]
    obtain ⟨a, c, rfl⟩ := hgn.slice
    try simp only [↓E1, ↓E2, ↓E3, Nat.reduceAdd]
    refine st_one h4.swap2 rfl rfl (by simp) fun w5 h5 => ?_
    simp only [List.set_cons_succ, List.set_cons_zero] at h5
    refine hok t names.length names l' hp g3 v3 _ hpn w5 hg3 hT3 hl3 hle hnl hgn ?_
    have h6 := (Sat.swap2 h5).perm ((List.Perm.cons _ (List.Perm.cons _ (List.perm_append_comm_assoc hpn [(b3, .cells [ptr nb 0].toArray 71), (b2, .cells [ptr p 0].toArray 70)] H))))
    exact Sat.drop2 (A := [(b3, _), (b2, _)]) h6
  intro q1 hq1
  try simp only [↓E1, ↓E2, ↓E3, Nat.reduceAdd]
  rw [h2.ldH (m2 _ _ _ _) 0 _ (by simp)]
  try simp only [↓E1, ↓E2, ↓E3, Nat.reduceAdd]
  have h2' := h2
  rw [hM] at h2'
  refine c_take hl hT h2' fun v3 w3 hT3 h3 => ?_
  have h3 : Sat g w3 (M v3 [] (.slice none 0 0) []) := by rw [hM]; exact h3
  clear h2 h2'
  try simp only [↓E3]
  refine h3.al fun b5 w4 h4 => ?_
  refine h4.st (c := [i64 0, str [], i64 0]) rfl (by simp) rfl fun w5 h5 => ?_
  have h5 : Sat g w5 ((b5, .cells (tokCells (hd l)).toArray 112) :: M v3 [] (.slice none 0 0) []) := h5
  clear h3 h4
  try simp only [↓E1, ↓E2, ↓E3, Nat.reduceAdd]
  rw [h5.ld0 0 _ (by simp [tokCells])]
  have k0 : (tokCells (hd l)).getD 0 undef = i64 (kd l : Int) := rfl
  have k1 : (tokCells (hd l)).getD 1 undef = str (hd l).text := rfl
  have k2 : (tokCells (hd l)).getD 2 undef = i64 ((hd l).pos : Int) := rfl
  have kl : 2 < (tokCells (hd l)).length := by simp [tokCells]
  rw [k0]
  try simp only [↓E1, ↓E2, ↓E3, Nat.reduceAdd]
  have mh : ∀ {x : Nat × Obj} {A : Hp}, x ∈ A → x ∈ (b5, Obj.cells (tokCells (hd l)).toArray 112) :: A := fun h => List.mem_cons_of_mem _ h
  have htext := hl.hd.2
  rw [cnd_dec]
  constructor
  · intro hk
    have hb := kd_of (l := l) (k := 1) hk
    try simp only [↓E1, ↓E2, ↓E3, Nat.reduceAdd]
    rw [h5.ldH (mh (m3 _ _ _ _)) 0 _ (by simp)]
    try simp only [↓E1, ↓E2, ↓E3, Nat.reduceAdd]
    rw [h5.ld0 1 _ (by omega), k1]
    try simp only [↓E1, ↓E2, ↓E3, Nat.reduceAdd]
    refine settext h5.tail fun w6 h6 => ?_
    try simp only [↓E1, ↓E2, ↓E3, Nat.reduceAdd]
    refine hq1 _ ⟨g, v3, (hd l).text, _, [], [], tk l, ?_, .refl g, hT3, hl.tk, htl, by simp; omega, .nil, h6⟩
    unfold patS
    rw [hb]
    rfl
  intro hk
  have hb1 := kd_not (l := l) (k := 1) hk
  try simp only [↓E1, ↓E2, ↓E3, Nat.reduceAdd]
  rw [cnd_dec]
  constructor
  · intro hk
    have hb := kd_of (l := l) (k := 3) hk
    try simp only [↓E1, ↓E2, ↓E3, Nat.reduceAdd]
    rw [h5.ldH (mh (m3 _ _ _ _)) 0 _ (by simp)]
    try simp only [↓E1, ↓E2, ↓E3, Nat.reduceAdd]
    rw [h5.ld0 1 _ (by omega), k1]
    try simp only [↓E1, ↓E2, ↓E3, Nat.reduceAdd]
    refine settext h5.tail fun w6 h6 => ?_
    have hps : patS l = (needS 1 (tk l)).andThen fun t l1 => .ok (.mk 12 (hd l).text 0 [t.text].length [t.text] []) l1 := by
      unfold patS
      rw [hb1, hb]
      rfl
    have h6' := h6
    rw [hM] at h6'
    try simp only [↓E1, ↓E2, ↓E3, Nat.reduceAdd]
    refine c_parg hl.tk hT3 (names := []) (by simp) .nil h6' (fun v7 nv7 hp7 w7 hn hT7 hg7 h7 => ?_) (fun w7 hn h7 => ?_)
    · try simp only [↓E1, ↓E2, ↓E3, Nat.reduceAdd]
      have := tk_le (tk l)
      rw [hn, andThen_eq_ok] at hps
      exact hq1 _ ⟨g, v7, (hd l).text, nv7, _, hp7, tk (tk l), hps, .refl g, hT7, hl.tk.tk, by omega, by simp; omega, hg7, by rw [hM]; exact h7⟩
    · try simp only [↓E3]
      rw [hn, andThen_eq_bad] at hps
      exact stop hps (.refl g) (by rw [hM]; exact h7)
  intro hk
  have hb3 := kd_not (l := l) (k := 3) hk
  try simp only [↓E1, ↓E2, ↓E3, Nat.reduceAdd]
  rw [cnd_dec]
  constructor
  · intro hk
    have hb := kd_of (l := l) (k := 2) hk
    try simp only [↓E1, ↓E2, ↓E3, Nat.reduceAdd]
    rw [h5.ldH (mh (m3 _ _ _ _)) 0 _ (by simp)]
    try simp only [↓E1, ↓E2, ↓E3, Nat.reduceAdd]
    rw [h5.ld0 1 _ (by omega), k1]
    try simp only [↓E1, ↓E2, ↓E3, Nat.reduceAdd]
    refine settext h5.tail fun w6 h6 => ?_
    obtain ⟨done, hdone⟩ : ∃ done : List UInt8 × List (List UInt8) → List Tok → Res Node, done = fun x l1 => .ok (.mk 12 x.1 0 x.2.length x.2 []) l1 := ⟨_, rfl⟩
    have hps : patS l = (needS 1 (tk l)).andThen fun t l1 => (patL (l1.length + 1) (hd l).text [t.text] l1).andThen done := by
      unfold patS
      rw [hb1, hb3, hb, hdone]
      rfl
    have h6' := h6
    rw [hM] at h6'
    try simp only [↓E1, ↓E2, ↓E3, Nat.reduceAdd]
    refine c_parg hl.tk hT3 (names := []) (by simp) .nil h6' (fun v7 nv7 hp7 w7 hn hT7 hg7 h7 => ?_) (fun w7 hn h7 => ?_)
    rotate_left
    · try simp only [↓E3]
      rw [hn, andThen_eq_bad] at hps
      exact stop hps (.refl g) (by rw [hM]; exact h7)
    try simp only [↓E1, ↓E2, ↓E3, Nat.reduceAdd]
    rw [hn, andThen_eq_ok] at hps
    have htt := tk_le (tk l)
    have hlt0 := tk_lt hb (by decide)
    clear h5 h6 h6'
    refine lp0 (fun q w' => ∃ l1 v1 t names nv hpn f, q = l1.length ∧ l1.length ≤ l.length ∧ l1.length < f ∧ WFL l1 ∧ TS g v1 l1 ∧ t.length + 4096 * l1.length ≤ 33554432 ∧ names.length + l1.length ≤ 5000 ∧ Grow Ty.string 1 nv names.length (names.map str) hpn ∧
        patS l = (patL f t names l1).andThen done ∧ Sat g w' (M v1 t nv hpn)) rfl (tk (tk l)).length
      ⟨tk (tk l), v7, (hd l).text, [(hd (tk l)).text], nv7, hp7, (tk (tk l)).length + 1, rfl, by omega, by omega, hl.tk.tk, hT7, by omega, by simp; omega, hg7, hps, by rw [hM]; exact h7⟩ ?_
    rintro q w8 ⟨l1, v1, t, names, nv, hpn, f, rfl, hll, hf, hl1, hT1, htx, hnl, hgn, hps, h8⟩
    clear h7
    obtain ⟨f, rfl⟩ : ∃ f', f = f' + 1 := ⟨f - 1, by omega⟩
    simp only [patL] at hps
    try simp only [↓E1, ↓E2, ↓E3, Nat.reduceAdd]
    rw [h8.ldH (m2 _ _ _ _) 0 _ (by simp)]
    try simp only [↓E1, ↓E2, ↓E3, Nat.reduceAdd]
    have h8' := h8
    rw [hM] at h8'
    refine c_kind hl1 hT1 h8' ?_
    clear h8'
    try simp only [↓E1, ↓E2, ↓E3, Nat.reduceAdd]
    rw [cnd_dec]
    constructor
    · intro hk
      have hb := kd_of (l := l1) (k := 2) hk
      rw [hb, cond_true] at hps
      have hlt := tk_lt hb (by decide)
      have hle2 := tk_le (tk l1)
      have htx1 := hl1.hd.2
      have h9 := h8.drew
      try simp only [↓E1, ↓E2, ↓E3, Nat.reduceAdd]
      rw [h9.ldH (m3 _ _ _ _) 0 _ (by simp)]
      try simp only [↓E1, ↓E2, ↓E3, Nat.reduceAdd]
      have h9' := h9
      rw [hM] at h9'
      rw [h9'.ld1 1 _ (by simp)]
      try simp only [↓E1, ↓E2, ↓E3, Nat.reduceAdd]
      rw [h9.ldH (m2 _ _ _ _) 0 _ (by simp)]
      try simp only [↓E1, ↓E2, ↓E3, Nat.reduceAdd]
      refine c_take hl1 hT1 h9' fun v10 w10 hT10 h10 => ?_
      try simp only [↓E3]
      refine h10.rk (b := nb) (t := 50) (fr := (0, 0)) (c := [i64 ((12 : Nat) : Int), str t, i64 ((0 : Nat) : Int), i64 ((0 : Nat) : Int), nv, .slice none 0 0]) (by simp) rfl ?_
      refine h10.rk (b := b3) (t := 71) (fr := (0, 0)) (c := [ptr nb 0]) (by simp) rfl ?_
      have h10 : Sat g w10 (M v10 t nv hpn) := by rw [hM]; exact h10
      try simp only [↓E1, ↓E2, ↓E3, Nat.reduceAdd, fl_tok]
      rw [bS_add]
      refine ⟨by omega, ?_⟩
      try simp only [↓E1, ↓E2, ↓E3, Nat.reduceAdd]
      refine settext h10 fun w11 h11 => ?_
      have h11' := h11
      rw [hM] at h11'
      try simp only [↓E1, ↓E2, ↓E3, Nat.reduceAdd]
      refine c_parg hl1.tk hT10 (names := names) (by omega) hgn h11' (fun v12 nv12 hp12 w12 hn hT12 hg12 h12 => ?_) (fun w12 hn h12 => ?_)
      · try simp only [↓E1, ↓E2, ↓E3, Nat.reduceAdd]
        rw [hn, andThen_eq_ok] at hps
        refine ⟨(tk (tk l1)).length, by omega, trivial, tk (tk l1), v12, t ++ (hd l1).text, names ++ [(hd (tk l1)).text], nv12, hp12, f, rfl, by omega, by omega, hl1.tk.tk, hT12, ?_, ?_, hg12, hps, by rw [hM]; exact h12⟩
        · simp only [List.length_append]; omega
        · simp only [List.length_append, List.length_cons, List.length_nil]; omega
      · try simp only [↓E3]
        rw [hn, andThen_eq_bad, andThen_eq_bad] at hps
        exact stop hps (.refl g) (by rw [hM]; exact h12)
    · intro hk
      have hb := kd_not (l := l1) (k := 2) hk
      rw [hb, cond_false, andThen_eq_ok, hdone] at hps
      try simp only [↓E1, ↓E2, ↓E3, Nat.reduceAdd]
      exact hq1 _ ⟨g, v1, t, nv, names, hpn, l1, hps, .refl g, hT1, hl1, hll, hnl, hgn, h8⟩
  · intro hk
    have hb2 := kd_not (l := l) (k := 2) hk
    try simp only [↓E1, ↓E2, ↓E3, Nat.reduceAdd]
    rw [h5.ld0 2 _ (by omega), k2]
    refine bdI (cs := [i64 ((hd l).pos : Int), i64 20]) rfl ?_
    refine stop (q := (hd l).pos) (e := 20) ?_ (.refl g) h5.tail
    unfold patS
    rw [hb1, hb3, hb2]
    rfl
end Go.Vx
namespace Go.Vx
open Go Go.Proofs
variable {R : Ending → World → Prop} {g : G} {w : World} {H hp T : Hp}

/-- Units about a place. -/
inductive FrR (g : G) : Value → List Fr → Prop
  | nil : FrR g (.pointer none) []
  | cons {b n : Nat} {names : List (List UInt8)} {rest : List Fr} {nv av : Value} (h3 : g.cell? b 3 = some (i64 (n : Int))) (h4 : g.cell? b 4 = some nv) (hn : SS g nv names) (hl : names.length ≤ 4611686018427387904)
      (h6 : g.cell? b 6 = some av) (hr : FrR g av rest) : FrR g (ptr b 0) (⟨names, n⟩ :: rest)
theorem FrR.mono {g g' : G} (hg : g.le g') {v : Value} {fs : List Fr} (h : FrR g v fs) : FrR g' v fs := by
  induction h with
  | nil => exact .nil
  | cons h3 h4 hn hl h6 _ ih => exact .cons (hg.cell h3) (hg.cell h4) (hn.mono hg) hl (hg.cell h6) ih

/-- A walk's block. -/
abbrev wlk (sv lv : Value) : Obj := .cells [sv, lv].toArray Ty.scope_walk

theorem idxT_lt {t : List UInt8} {l : List (List UInt8)} {k i : Nat} (h : idxT t l i = some k) : i ≤ k ∧ k < i + l.length := by
  induction l generalizing i with
  | nil => simp [idxT] at h
  | cons x l ih =>
    simp only [idxT] at h
    cases hb : x == t with
    | true =>
      rw [hb] at h
      simp at h
      subst h
      simp
    | false =>
      rw [hb] at h
      have := ih h
      simp only [List.length_cons]
      omega

theorem c_find {wb : Nat} {sv lv fv : Value} {slots : List (List UInt8)} {t : List UInt8} {fs : List Fr} (hsl : SS g sv slots) (hsn : slots.length ≤ 4611686018427387904) (hf : FrR g fv fs) (hfl : fs.length ≤ 4611686018427387904) (hS : Sat g w ((wb, wlk sv lv) :: H))
    (hR : ∀ w', Sat g w' ((wb, wlk sv lv) :: H) → R (.returned (.tuple #[.agg (useC (findS slots t fs).1).toArray, .bool (findS slots t fs).2])) w') : Tr P F.scope_walk_find [ptr wb 0, str t, fv] w R := by
  apply t_scope_walk_find
  unfold d_scope_walk_find
  refine hS.al fun b6 w1 h1 => ?_
  try simp only [↓E2]
  refine c_fixed h1 fun w2 h2 => ?_
  obtain ⟨u0, hu0⟩ : ∃ u0, u0 = fixU t := ⟨_, rfl⟩
  rw [← hu0]
  try simp only [↓E2, ↓E3]
  refine h2.al fun b8 w3 h3 => ?_
  have h3 : Sat g w3 ((b8, ubx use0) :: (b6, ubx use0) :: (wb, wlk sv lv) :: H) := h3
  refine st_all (c := useC u0) (c2 := useC use0) h3 rfl rfl rfl fun w4 h4 => ?_
  -- what is told
  have fin : ∀ (u : Use) (q : Bool) (w' : World), Sat g w' ((b8, ubx u) :: (b6, ubx use0) :: (wb, wlk sv lv) :: H) → (u, q) = findS slots t fs →
      ldn 6 (ptr b8 0) (fun t25 w => st 6 (ptr b6 0) t25 (fun w => ldn 6 (ptr b6 0) (fun r0 w => R (.returned (.tuple #[r0, (.bool q)])) w) w) w) w' := by
    intro u q w' h he
    refine h.ldn0 (c := useC u) rfl ?_
    refine st_all (c := useC u) (c2 := useC use0) h.swap2 rfl rfl rfl fun w4 h4 => ?_
    refine h4.ldn0 (c := useC u) rfl ?_
    have := hR w4 h4.tail.tail
    rw [← he] at this
    exact this
  rw [cnd_eq]
  constructor
  · intro hs
    refine fin u0 false w4 h4 ?_
    unfold findS
    rw [hu0]
    unfold fixU
    cases hfx : fixedS t with
    | none => rw [hfx] at hs; simp at hs
    | some x => rfl
  intro hs
  have hfx : fixedS t = none := by
    cases hfx : fixedS t with
    | none => rfl
    | some x => rw [hfx] at hs; simp at hs
  have hu0 : u0 = ⟨0, t, 0, 0, 0, false⟩ := by
    rw [hu0]
    unfold fixU
    rw [hfx]
  subst hu0
  have hfs : findS slots t fs = (match findF t fs 0 with
      | some (d, k, a) => (⟨0, t, 3, d, k, false⟩, a)
      | none => match idxT t slots 0 with
        | some k => (⟨0, t, 4, 0, k, false⟩, false)
        | none => (⟨0, t, bif capB t then 5 else -1, 0, 0, false⟩, false)) := by
    unfold findS
    rw [hfx]
    try rfl
  refine lp3 (fun m x y z w' => ∃ fs' d, z = i64 ((d : Nat) : Int) ∧ m = fs'.length ∧ d + fs'.length = fs.length ∧ FrR g x fs' ∧ findF t fs' d = findF t fs 0 ∧ Sat g w' ((b8, ubx ⟨0, t, 0, 0, 0, false⟩) :: (b6, ubx use0) :: (wb, wlk sv lv) :: H)) fs.length
    ⟨fs, 0, rfl, rfl, by omega, hf, rfl, h4⟩ ?_
  rintro m x y z w5 ⟨fs', d, rfl, rfl, hd, hfr, hfd, h5⟩
  cases hfr with
  | nil =>
    rw [bNn_neq]
    try simp only [↓E1, ↓E2, ↓E3]
    simp only [findF] at hfd
    rw [← hfd] at hfs
    simp only [] at hfs
    refine st_one h5 rfl rfl (by simp [useC]) fun w6 h6 => ?_
    have h6 : Sat g w6 ((b8, ubx ⟨0, t, -1, 0, 0, false⟩) :: (b6, ubx use0) :: (wb, wlk sv lv) :: H) := h6
    rw [h6.ld2 0 _ (by simp)]
    try simp only [↓E1, ↓E2, ↓E3]
    refine c_index hsl hsn h6 ?_
    try simp only [↓E1, ↓E2, ↓E3]
    cases hix : idxT t slots 0 with
    | some k =>
      rw [hix] at hfs
      rw [cnd_dec]
      constructor
      · intro _
        refine st_one h6 rfl rfl (by simp [useC]) fun w7 h7 => ?_
        refine st_one h7 rfl rfl (by simp [useC]) fun w8 h8 => ?_
        exact fin ⟨0, t, 4, 0, k, false⟩ false w8 h8 hfs.symm
      · intro h
        exact absurd (Int.natCast_nonneg k) h
    | none =>
      rw [hix] at hfs
      simp only [] at hfs
      rw [cnd_dec]
      constructor
      · intro h
        simp [idxI] at h
      intro _
      have es : (Value.string { data := #[] }) = str [] := rfl
      try rw [es]
      try simp only [↓E2]
      rw [cnd_ndec]
      constructor
      · intro hne
        obtain ⟨c, t', rfl⟩ : ∃ c t', t = c :: t' := by
          cases t with
          | nil => exact absurd rfl hne
          | cons c t' => exact ⟨c, t', rfl⟩
        refine ⟨by omega, c, rfl, ?_⟩
        try simp only [↓E1]
        rw [cnd_dec]
        constructor
        · intro hlo
          have e1 : Nat.ble 65 c.toNat = true := Nat.ble_eq_true_of_le (by omega)
          refine ⟨by omega, c, rfl, ?_⟩
          try simp only [↓E1]
          rw [cnd_dec]
          constructor
          · intro hhi
            have e2 : Nat.ble c.toNat 90 = true := Nat.ble_eq_true_of_le (by omega)
            have e3 : capB (c :: t') = _ := rfl
            simp only [e1, e2, capB] at hfs
            refine st_one h6 rfl rfl (by simp [useC]) fun w7 h7 => ?_
            exact fin ⟨0, c :: t', 5, 0, 0, false⟩ false w7 h7 hfs.symm
          · intro hhi
            have e2 : Nat.ble c.toNat 90 = false := by
              cases hb : Nat.ble c.toNat 90 with
              | false => rfl
              | true => have := Nat.le_of_ble_eq_true hb; omega
            have e3 : capB (c :: t') = _ := rfl
            simp only [e1, e2, capB] at hfs
            exact fin _ false w6 h6 hfs.symm
        · intro hlo
          have e1 : Nat.ble 65 c.toNat = false := by
            cases hb : Nat.ble 65 c.toNat with
            | false => rfl
            | true => have := Nat.le_of_ble_eq_true hb; omega
          simp only [e1, capB] at hfs
          exact fin _ false w6 h6 hfs.symm
      · rintro rfl
        exact fin _ false w6 h6 hfs.symm
  | @cons b n names rest nv av c3 c4 hn hl c6 hr =>
    rw [bNp_neq]
    try simp only [↓E1, ↓E2, ↓E3, Nat.reduceAdd]
    rw [h5.ldI c4]
    try simp only [↓E1, ↓E2, ↓E3]
    refine c_index hn hl h5 ?_
    try simp only [↓E1, ↓E2, ↓E3]
    simp only [findF] at hfd
    cases hix : idxT t names 0 with
    | some k =>
      rw [hix] at hfd
      simp only [] at hfd
      rw [← hfd] at hfs
      simp only [] at hfs
      rw [cnd_dec]
      constructor
      · intro _
        refine st_one h5 rfl rfl (by simp [useC]) fun w7 h7 => ?_
        refine st_one h7 rfl rfl (by simp [useC]) fun w8 h8 => ?_
        refine st_one h8 rfl rfl (by simp [useC]) fun w9 h9 => ?_
        have h9 : Sat g w9 ((b8, ubx ⟨0, t, 3, d, k, false⟩) :: (b6, ubx use0) :: (wb, wlk sv lv) :: H) := h9
        have h10 := h9.drew
        try simp only [↓E1, ↓E2, ↓E3, Nat.reduceAdd]
        refine h10.ldn0 (c := useC ⟨0, t, 3, d, k, false⟩) rfl ?_
        try simp only [↓E1, ↓E2, ↓E3, Nat.reduceAdd]
        rw [h10.ldI c3]
        try simp only [↓E1, ↓E2, ↓E3, Nat.reduceAdd]
        refine st_all (c := useC ⟨0, t, 3, d, k, false⟩) (c2 := useC use0) h10.swap2 rfl rfl rfl fun w11 h11 => ?_
        refine h11.rkI c3 ?_
        refine h11.ldn0 (c := useC ⟨0, t, 3, d, k, false⟩) rfl ?_
        have := hR w11 h11.tail.tail
        rw [hfs] at this
        have e : decide (idxI (some k) < (n : Int)) = Nat.blt k n := by
          rw [Bool.eq_iff_iff, Nat.blt_eq]
          simp [idxI]
        rw [e]
        exact this
      · intro h
        exact absurd (Int.natCast_nonneg k) h
    | none =>
      rw [hix] at hfd
      simp only [] at hfd
      rw [cnd_dec]
      constructor
      · intro h
        simp [idxI] at h
      intro _
      have h10 := h5.drew
      try simp only [↓E1, ↓E2, ↓E3, Nat.reduceAdd]
      rw [wrap64_succ (by simp only [List.length_cons] at hd; omega)]
      try simp only [↓E1, ↓E2, ↓E3, Nat.reduceAdd]
      rw [h10.ldI c6]
      try simp only [↓E3]
      exact ⟨rest.length, by simp, _, _, _, rfl, rest, d + 1, rfl, rfl, by simp only [List.length_cons] at hd; omega, hr, hfd, h10⟩
end Go.Vx
