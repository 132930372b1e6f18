/- Part 6 of the walk: a calculus of conditions over the model, and contracts of the functions of the program, in their plain form. No claim stands here. -/
import Derived.Test.YtenakfgcdjninaaGreatDoorVm5
import Derived.Below
import Derived.Carry
import Derived.ChangeMaps5
import Derived.Laws.StructEq
import Derived.Laws.Tables
import Derived.SliceStrings
import Derived.Tactics
import Derived.Tactics2
set_option linter.unusedVariables false
set_option linter.unusedSimpArgs false
set_option linter.unusedSectionVars false
set_option linter.unnecessarySimpa false
namespace Go.Vx
open Go Go.Proofs
variable {R : Ending → World → Prop} {g : G} {w : World} {H hp T : Hp}

def PartM (n : Node) : Prop := ∀ {g : G} {w : World} {H hp : Hp} {R : Ending → World → Prop} {sel : List UInt8} {b u : Nat} {m : MK} {c : List Value},
  NodeR g c n → MR g sel b m hp → u < m.units.length → nU n ≤ m.uses.length → tot m + 16 * msr n ≤ 1073741824 → Sat g w (hp ++ H) →
  (∀ hp' w', MR g sel b (partC n u m) hp' → Sat g w' (hp' ++ H) → R (.returned (.tuple #[])) w') → Tr P F.code_maker_part [ptr b 0, i64 (u : Int), .agg c.toArray] w R
def UnitM (n : Node) : Prop := ∀ {g : G} {w : World} {H hp : Hp} {R : Ending → World → Prop} {sel : List UInt8} {b : Nat} {m : MK} {c : List Value},
  NodeR g c n → MR g sel b m hp → nU n ≤ m.uses.length → tot m + 16 * msr n ≤ 1073741828 → Sat g w (hp ++ H) →
  (∀ hp' w', MR g sel b (unitC n m) hp' → Sat g w' (hp' ++ H) → R (.returned (.tuple #[])) w') → Tr P F.code_maker_unit [ptr b 0, .agg c.toArray] w R

theorem c_mname {sel : List UInt8} {b u : Nat} {m : MK} (hM : MR g sel b m hp) (hu : u < m.units.length) (hne : m.uses ≠ []) (ht : tot m + 2 ≤ 1073741824) (hS : Sat g w (hp ++ H))
    (hR : ∀ hp' w', MR g sel b (nameC u m) hp' → Sat g w' (hp' ++ H) → R (.returned (.tuple #[])) w') : Tr P F.code_maker_name [ptr b 0, i64 (u : Int)] w R := by
  apply t_code_maker_name
  unfold d_code_maker_name
  refine c_use hM hne hS fun hp1 w1 hM1 h1 => ?_
  try simp only [↓E3]
  refine h1.al fun b4 w2 h2 => ?_
  have h2 : Sat g w2 ((b4, ubx use0) :: (hp1 ++ H)) := h2
  refine st_all (c := useC (useH m)) (c2 := useC use0) h2 rfl rfl rfl fun w3 h3 => ?_
  have hle := le_pop m
  have hu1 : u < (popU m).units.length := hu
  have ht1 : tot (popU m) + 2 ≤ 1073741824 := by have := hle.tot; omega
  unfold nameC at hR
  simp only [] at hR
  generalize useH m = x at h3 hR
  generalize popU m = m1 at hM1 hR hu1 ht1
  have q2 : (useC x).getD 2 undef = i64 x.kind := rfl
  have q3 : (useC x).getD 3 undef = i64 (x.depth : Int) := rfl
  have q4 : (useC x).getD 4 undef = i64 (x.index : Int) := rfl
  have q1 : (useC x).getD 1 undef = str x.name := rfl
  have ul : 5 < (useC x).length := by simp [useC]
  have toM : ∀ {w' : World} {hp' : Hp}, Sat g w' ((b4, ubx x) :: (hp' ++ H)) → Sat g w' (hp' ++ ((b4, ubx x) :: H)) := fun h => h.perm List.perm_middle.symm
  -- a step is put
  have add : ∀ (op a bb : Nat) (m2 : MK) (hp2 : Hp) (w' : World), MR g sel b m2 hp2 → u < m2.units.length → tot m2 ≤ 1073741824 → Sat g w' (hp2 ++ ((b4, ubx x) :: H)) → (∀ hp' w', MR g sel b (addI m2 u ⟨op, a, bb⟩) hp' → Sat g w' (hp' ++ H) → R (.returned (.tuple #[])) w') →
      Tr P F.code_maker_add [ptr b 0, i64 (u : Int), i64 (op : Int), i64 (a : Int), i64 (bb : Int)] w' (Vx.back (fun _ w => R (.returned (.tuple #[])) w) (fun ch w => R (.panicked ch) w)) := by
    intro op a bb m2 hp2 w' hM2 hu2 ht2 h hr
    refine c_add hM2 hu2 ht2 h fun hp' w'' hM' h' => ?_
    try simp only [↓E3]
    exact hr hp' w'' hM' (Sat.del h')
  try simp only [↓E1, ↓E2, ↓E3, Nat.reduceAdd]
  rw [h3.ld0 2 _ (by omega), q2]
  try simp only [↓E1, ↓E2, ↓E3, Nat.reduceAdd]
  rw [cnd_dec]
  constructor
  · intro hk
    rw [hk] at hR
    try simp only [↓E1, ↓E2, ↓E3, Nat.reduceAdd]
    rw [h3.ld0 4 _ (by omega), q4]
    try simp only [↓E1, ↓E2, ↓E3, Nat.reduceAdd]
    exact add 7 x.index 0 m1 hp1 w3 hM1 hu1 (by omega) (toM h3) hR
  intro hk
  have e2 : (x.kind == 2) = false := beq_eq_false_iff_ne.2 hk
  rw [e2] at hR
  try simp only [↓E1, ↓E2, ↓E3, Nat.reduceAdd]
  rw [cnd_dec]
  constructor
  · intro hk
    rw [hk] at hR
    try simp only [↓E1, ↓E2, ↓E3, Nat.reduceAdd]
    rw [h3.ld0 3 _ (by omega), q3]
    try simp only [↓E1, ↓E2, ↓E3, Nat.reduceAdd]
    rw [h3.ld0 4 _ (by omega), q4]
    try simp only [↓E1, ↓E2, ↓E3, Nat.reduceAdd]
    exact add 1 x.depth x.index m1 hp1 w3 hM1 hu1 (by omega) (toM h3) hR
  intro hk
  have e3 : (x.kind == 3) = false := beq_eq_false_iff_ne.2 hk
  rw [e3] at hR
  try simp only [↓E1, ↓E2, ↓E3, Nat.reduceAdd]
  rw [cnd_dec]
  constructor
  · intro hk
    rw [hk] at hR
    try simp only [↓E1, ↓E2, ↓E3, Nat.reduceAdd]
    rw [h3.ld0 4 _ (by omega), q4]
    try simp only [↓E1, ↓E2, ↓E3, Nat.reduceAdd]
    exact add 3 x.index 0 m1 hp1 w3 hM1 hu1 (by omega) (toM h3) hR
  intro hk
  have e4 : (x.kind == 4) = false := beq_eq_false_iff_ne.2 hk
  rw [e4] at hR
  try simp only [↓E1, ↓E2, ↓E3, Nat.reduceAdd]
  rw [cnd_dec]
  constructor
  · intro hk
    rw [hk] at hR
    have h4 := h3.drew
    try simp only [↓E1, ↓E2, ↓E3, Nat.reduceAdd]
    rw [h4.ld0 1 _ (by omega), q1]
    try simp only [↓E1, ↓E2, ↓E3, Nat.reduceAdd]
    refine c_onceN hM1 (by omega) (toM h4) fun hp5 w5 hM5 h5 => ?_
    try simp only [↓E1, ↓E2, ↓E3, Nat.reduceAdd]
    exact add 5 _ 0 _ hp5 w5 hM5 hu1 (by have := (le_name m1 x.name).tot; omega) h5 hR
  · intro hk
    have e5 : (x.kind == 5) = false := beq_eq_false_iff_ne.2 hk
    rw [e5] at hR
    exact add 6 0 0 m1 hp1 w3 hM1 hu1 (by omega) (toM h3) hR

/-- Where a part lies. -/
theorem KR.atI {kv : Value} {ks : List Node} {kcs : List (List Value)} {n : Nat} (hn : n ≤ ks.length) (hk : Sl g 6 kv n (kcs.flatten.take (n * 6))) (hr : KR g kcs ks) {i : Nat} {k : Node} (hin : i < n) (hi : ks[i]? = some k) (hS : Sat g w H) {K : Value → World → Prop}
    (hK : ∀ b o c, NodeR g c k → (∀ q x, c[q]? = some x → g.cell? b (o + q) = some x) → K (ptr b o) w) : ia 6 kv (i64 (i : Int)) K w := by
  have hlt := (List.getElem?_eq_some_iff.1 hi).1
  obtain ⟨c, hc⟩ : ∃ c, kcs[i]? = some c := ⟨_, List.getElem?_eq_getElem (by rw [hr.1]; exact hlt)⟩
  have hnr := hr.2 i c k hc hi
  refine Sl.at hk hS hin (by decide) fun b o hcell => hK b o c hnr fun q x hx => hcell q x ?_
  have hlen := hnr.len
  have key : ∀ (kcs : List (List Value)) (ks : List Node) (i : Nat), KR g kcs ks → kcs[i]? = some c → (kcs.flatten.drop (i * 6)).take 6 = c := by
    intro kcs
    induction kcs with
    | nil => intro ks i _ h; simp at h
    | cons a kcs ih =>
      intro ks i hr h
      cases ks with
      | nil => have := hr.1; simp at this
      | cons k0 ks =>
        have ha := (hr.2 0 a k0 rfl rfl).len
        cases i with
        | zero =>
          simp only [List.getElem?_cons_zero, Option.some.injEq] at h
          subst h
          simp only [Nat.zero_mul, List.drop_zero, List.flatten_cons]
          rw [← ha, List.take_left']
          rfl
        | succ i =>
          have := ih ks i ⟨by simpa using hr.1, fun j c' k' h1 h2 => hr.2 (j + 1) c' k' (by simpa using h1) (by simpa using h2)⟩ (by simpa using h)
          rw [List.flatten_cons, show (i + 1) * 6 = a.length + i * 6 from by rw [ha]; omega, ← List.drop_drop, List.drop_left']
          · exact this
          · rfl
  have h6 := key kcs ks i hr hc
  have e : ((kcs.flatten.take (n * 6)).drop (i * 6)).take 6 = c := by
    rw [List.drop_take, List.take_take, Nat.min_eq_left (by omega), h6]
  rw [e]
  exact hx

theorem KR.ldI {kv : Value} {ks : List Node} {kcs : List (List Value)} {n : Nat} (hn : n ≤ ks.length) (hk : Sl g 6 kv n (kcs.flatten.take (n * 6))) (hr : KR g kcs ks) {i : Nat} {k : Node} (hin : i < n) (hi : ks[i]? = some k) (hS : Sat g w H) {K : Value → World → Prop}
    (hK : ∀ c, NodeR g c k → K (.agg c.toArray) w) : ia 6 kv (i64 (i : Int)) (fun t w => ldn 6 t K w) w := by
  refine hr.atI hn hk hin hi hS fun b o c hc hcell => ?_
  have := hS.ldnI (b := b) (o := o) (vs := c) (K := K) hcell (hK c hc)
  rw [hc.len] at this
  exact this

theorem KR.flatLen {kcs : List (List Value)} {ks : List Node} (hr : KR g kcs ks) : kcs.flatten.take (ks.length * 6) = kcs.flatten := by
  rw [List.take_of_length_le (by rw [hr.flat]; exact Nat.le_refl _)]

/-- Arguments, and a message to what is below them. -/
theorem c_send {sel t : List UInt8} {b u : Nat} {m : MK} {cr : List Value} {r : Node} {kv : Value} {ks : List Node} {kcs : List (List Value)} (ih : ∀ x ∈ ks, PartM x) (hr : NodeR g cr r) (hkv : Sl g 6 kv ks.length kcs.flatten) (hkr : KR g kcs ks) (hM : MR g sel b m hp) (hu : u < m.units.length)
    (hn : nUs ks ≤ m.uses.length) (ht : tot m + 16 * msrs ks + 2 ≤ 1073741824) (hS : Sat g w (hp ++ H))
    (hR : ∀ hp' w', MR g sel b (sendC u (isSuper r) t ks.length (partsC ks u m)) hp' → Sat g w' (hp' ++ H) → R (.returned (.tuple #[])) w') : Tr P F.code_maker_send [ptr b 0, i64 (u : Int), .agg cr.toArray, str t, kv] w R := by
  apply t_code_maker_send
  unfold d_code_maker_send
  have hrl := hr.len
  refine hS.al fun b7 w1 h1 => ?_
  have h1 : Sat g w1 ((b7, box cr) :: (hp ++ H)) := by
    have e : (Value.agg cr.toArray).cells.toList = cr := by simp [Value.cells]
    rw [e] at h1
    exact h1
  obtain ⟨ka, kc, rfl, _, _, _⟩ := id hkv
  have hkl2 := len_msrs ks
  have hkv' : Sl g 6 (.slice ka ks.length kc) ks.length (kcs.flatten.take (ks.length * 6)) := by rw [hkr.flatLen]; exact hkv
  try simp only [↓E2]
  refine lp1 (fun q x w' => ∃ i m' hp', x = i64 ((i : Nat) : Int) ∧ q = ks.length - i ∧ i ≤ ks.length ∧ MR g sel b m' hp' ∧ u < m'.units.length ∧ nUs (ks.drop i) ≤ m'.uses.length ∧ tot m' + 16 * msrs (ks.drop i) + 2 ≤ 1073741824 ∧
      partsC (ks.drop i) u m' = partsC ks u m ∧ Sat g w' ((b7, box cr) :: (hp' ++ H))) ks.length
    ⟨0, m, hp, rfl, rfl, by omega, hM, hu, hn, ht, rfl, h1⟩ ?_
  rintro q x w2 ⟨i, m2, hp2, rfl, rfl, hi, hM2, hu2, hn2, ht2, hp2e, h2⟩
  try simp only [↓E1, ↓E2, ↓E3]
  rw [cnd_dec]
  constructor
  · intro hlt
    obtain ⟨x, hx⟩ : ∃ x, ks[i]? = some x := ⟨_, List.getElem?_eq_getElem (by omega)⟩
    have hxm : x ∈ ks := List.mem_of_getElem? hx
    refine hkr.ldI (Nat.le_refl _) hkv' (by omega) hx h2 fun c5 hc5 => ?_
    refine h2.al fun b11 w3 h3 => ?_
    refine st_box (c2 := zN) h3 hc5.len rfl hc5.one fun w4 h4 => ?_
    refine h4.ldn0 (c := c5) hc5.len.symm ?_
    have hdr : ks.drop i = x :: ks.drop (i + 1) := by
      rw [List.drop_eq_getElem_cons (List.getElem?_eq_some_iff.1 hx).1, (List.getElem?_eq_some_iff.1 hx).2]
    rw [hdr] at hn2 ht2 hp2e
    simp only [msrs, nUs, partsC] at hn2 ht2 hp2e
    have hpos := msr_pos x
    have hle := (le_part x).1 u m2
    try simp only [↓E1, ↓E2, ↓E3]
    refine ih x hxm hc5 hM2 hu2 (by omega) (by omega) (h4.tail.perm List.perm_middle.symm) fun hp5 w5 hM5 h5 => ?_
    try simp only [↓E1, ↓E2, ↓E3]
    rw [wrap64_succ (by omega)]
    have l1 := hle.uses
    have l2 := hle.units
    have l3 := hle.tot
    exact ⟨ks.length - (i + 1), by omega, _, rfl, i + 1, _, hp5, rfl, rfl, by omega, hM5, by omega, by omega, by omega, hp2e, h5.perm List.perm_middle⟩
  · intro hge
    have : i = ks.length := by omega
    subst this
    rw [List.drop_length] at hp2e
    simp only [partsC] at hp2e
    rw [← hp2e] at hR
    simp only [List.drop_length, msrs] at ht2
    refine jn1 (fun x w' => x = i64 (((bif isSuper r then 9 else 8 : Nat)) : Int) ∧ w' = w2) ?_ ?_
    · rintro x w' ⟨rfl, rfl⟩
      try simp only [↓E1, ↓E2, ↓E3, Nat.reduceAdd]
      refine c_onceS hM2 (by omega) (h2.perm List.perm_middle.symm) fun hp3 w3 hM3 h3 => ?_
      try simp only [↓E1, ↓E2, ↓E3, Nat.reduceAdd]
      refine c_add hM3 hu2 (by have := (le_sel m2 t).tot; omega) h3 fun hp4 w4 hM4 h4 => ?_
      try simp only [↓E3]
      exact hR hp4 w4 hM4 (Sat.del h4)
    · intro k2 hk2
      cases hr with
      | @mk rk rp rn rt rns rks rnv rkv rkcs _ _ _ _ =>
      try simp only [↓E1, ↓E2, ↓E3, Nat.reduceAdd]
      rw [h2.ld0 0 _ (by simp)]
      try simp only [↓E1, ↓E2, ↓E3, Nat.reduceAdd]
      rw [cnd_dec]
      constructor
      · intro hk5
        have : rk = 5 := by omega
        subst this
        try simp only [↓E1, ↓E2, ↓E3, Nat.reduceAdd]
        rw [h2.ld0 1 _ (by simp)]
        have es : (Value.string { data := #[115, 117, 112, 101, 114] }) = str superT := rfl
        try rw [es]
        try simp only [↓E1, ↓E2, ↓E3, Nat.reduceAdd]
        rw [cnd_dec]
        constructor
        · intro hs
          try simp only [↓E3]
          refine hk2 _ _ ⟨?_, rfl⟩
          have : isSuper (.mk 5 rt rp rn rns rks) = true := by
            show (Nat.beq 5 5 && rt == superT) = true
            rw [hs]; rfl
          rw [this]; rfl
        · intro hs
          try simp only [↓E3]
          refine hk2 _ _ ⟨?_, rfl⟩
          have : isSuper (.mk 5 rt rp rn rns rks) = false := by
            show (Nat.beq 5 5 && rt == superT) = false
            have : (rt == superT) = false := beq_eq_false_iff_ne.2 hs
            rw [this]; rfl
          rw [this]; rfl
      · intro hk5
        try simp only [↓E3]
        refine hk2 _ _ ⟨?_, rfl⟩
        have : isSuper (.mk rk rt rp rn rns rks) = false := by
          show (Nat.beq rk 5 && rt == superT) = false
          have : Nat.beq rk 5 = false := by
            cases hb : Nat.beq rk 5 with
            | false => rfl
            | true => have := Nat.eq_of_beq_eq_true hb; omega
          rw [this]; rfl
        rw [this]; rfl
end Go.Vx
namespace Go.Vx
open Go Go.Proofs
variable {R : Ending → World → Prop} {g : G} {w : World} {H hp T : Hp}

/-- What is to be known of a statement. -/
def StmtM (x : Node) : Prop := (Nat.beq x.kind 11 = false → PartM x) ∧ (Nat.beq x.kind 11 = true → ∃ e, x.kids = [e] ∧ PartM e)

theorem c_pushU {sel : List UInt8} {b : Nat} {m : MK} (hM : MR g sel b m hp) (a n : Nat) {K : World → Prop} (ht : tot m ≤ 1073741824) (hS : Sat g w (hp ++ H))
    (hK : ∀ hp' w', MR g sel b { m with units := m.units ++ [⟨a, n, []⟩] } hp' → Sat g w' (hp' ++ H) → K w') :
    ld (ptr b 1) (fun t19 w => bd [.int .i64 0, .int .i64 0, .slice none 0 0] [(0, 1, i64 (a : Int)), (1, 1, i64 (n : Int))] (fun t25 w =>
      bs 56 [.int .i64 0, .int .i64 0, .slice none 0 0] 1 [(0, 3, t25)] (fun t26 w => rk false (ptr b 1) t19 (ap 56 3 40 [.int .i64 0, .int .i64 0, .slice none 0 0] t19 t26 (fun t27 w => st 1 (ptr b 1) t27 K w) w) w) w) w) w := by
  obtain ⟨vU, cU, hU, hI, vL, hL, vN, hN, vS, hSe, vX, hur, hgU, hgL, hgN, hgS, hX, rfl⟩ := id hM
  have h1 : Sat g w ((b, mkO sel vU vL vN vS vX) :: (hU ++ ((hI ++ (hL ++ (hN ++ hSe))) ++ H))) := by simpa using hS
  rw [h1.ld0 1 _ (by simp)]
  refine bdI (cs := [i64 (a : Int), i64 (n : Int), .slice none 0 0]) rfl ?_
  refine h1.bs (cs := [i64 (a : Int), i64 (n : Int), .slice none 0 0]) rfl fun b26 w2 h2 => ?_
  refine h2.rk (b := b) (t := Ty.code_maker) (fr := (0, 0)) (c := [str sel, vU, vL, vN, vS, vX]) (by simp) rfl ?_
  have h3 : Sat g w2 ((b26, .cells [i64 (a : Int), i64 (n : Int), .slice none 0 0].toArray 56) :: (hU ++ ((b, mkO sel vU vL vN vS vX) :: ((hI ++ (hL ++ (hN ++ hSe))) ++ H)))) := h2.perm (.cons _ List.perm_middle.symm)
  have hml : m.units.length ≤ 1073741824 := by unfold tot at ht; omega
  refine h3.ap1 (m := 1) hgU rfl rfl rfl (by omega) (by omega) fun v' hp' w4 hg4 h4 => ?_
  have h5 : Sat g w4 ((b, mkO sel vU vL vN vS vX) :: (hp' ++ ((hI ++ (hL ++ (hN ++ hSe))) ++ H))) := h4.perm List.perm_middle
  have hv : v'.cells = #[v'] ∧ one v' = true := by obtain ⟨a, c, rfl⟩ := hg4.slice; exact ⟨rfl, rfl⟩
  refine st_one h5 hv.1 hv.2 (by simp) fun w6 h6 => ?_
  refine hK ((b, mkO sel v' vL vN vS vX) :: (hp' ++ (hI ++ (hL ++ (hN ++ hSe))))) w6 ⟨v', cU ++ [i64 (a : Int), i64 (n : Int), .slice none 0 0], hp', hI, vL, hL, vN, hN, vS, hSe, vX, hur.snoc a n, ?_, hgL, hgN, hgS, hX, rfl⟩ (by simpa using h6)
  simpa using hg4

theorem c_unitM {k p nn : Nat} {t : List UInt8} {ns : List (List UInt8)} {ks : List Node} (ih : ∀ x ∈ ks, StmtM x) : UnitM (.mk k t p nn ns ks) := by
  intro g w H hp R sel b m c hn hM hnu ht hS hR
  apply t_code_maker_unit
  unfold d_code_maker_unit
  cases hn with
  | @mk _ _ _ _ _ _ nv kv kcs hnv hkv hkl hkr =>
  have hkr : KR g kcs ks := ⟨hkl, hkr⟩
  simp only [msr] at ht
  have hnk : nUs ks ≤ m.uses.length := by have := nUs_kids (.mk k t p nn ns ks); simp only [Node.kids] at this; omega
  have hkl2 := len_msrs ks
  obtain ⟨na, nc, rfl, _, _, _⟩ := id hnv
  obtain ⟨ka, kc, rfl, _, _, _⟩ := id hkv
  obtain ⟨c, hcd⟩ : ∃ c, c = [i64 (k : Int), str t, i64 (p : Int), i64 (nn : Int), Value.slice na ns.length nc, Value.slice ka ks.length kc] := ⟨_, rfl⟩
  rw [← hcd]
  have hclen : c.length = 6 := by rw [hcd]; rfl
  have g0 : c.getD 0 undef = i64 (k : Int) := by rw [hcd]; rfl
  have g1 : c.getD 1 undef = str t := by rw [hcd]; rfl
  have g3 : c.getD 3 undef = i64 (nn : Int) := by rw [hcd]; rfl
  have g4 : c.getD 4 undef = Value.slice na ns.length nc := by rw [hcd]; rfl
  have g5 : c.getD 5 undef = Value.slice ka ks.length kc := by rw [hcd]; rfl
  clear hcd
  have hkv' : Sl g 6 (.slice ka ks.length kc) ks.length (kcs.flatten.take (ks.length * 6)) := by rw [hkr.flatLen]; exact hkv
  have hR : ∀ hp' w', MR g sel b (unitOf k t nn ns.length ks.length (fun u' m' => stmtsC ks u' true m') m) hp' → Sat g w' (hp' ++ H) → R (.returned (.tuple #[])) w' := hR
  refine hS.al fun b3 w1 h1 => ?_
  have h1 : Sat g w1 ((b3, box c) :: (hp ++ H)) := by
    have e : (Value.agg c.toArray).cells.toList = c := by simp [Value.cells]
    rw [e] at h1
    exact h1
  have toM : ∀ {x : Nat × Obj} {w' : World} {hp' : Hp}, Sat g w' (x :: (hp' ++ H)) → Sat g w' (hp' ++ (x :: H)) := fun h => h.perm List.perm_middle.symm
  have toB : ∀ {x : Nat × Obj} {w' : World} {hp' : Hp}, Sat g w' (hp' ++ (x :: H)) → Sat g w' (x :: (hp' ++ H)) := fun h => h.perm List.perm_middle
  obtain ⟨vU, cU, hU, hI, vL, hL, vN, hN, vS, hSe, vX, hur, hgU, hgL, hgN, hgS, hX, hpe⟩ := id hM
  obtain ⟨ua, uc, rfl⟩ := hgU.slice
  try simp only [↓E1, ↓E2, ↓E3, Nat.reduceAdd]
  have hbm : (b, mkO sel (.slice ua m.units.length uc) vL vN vS vX) ∈ (b3, box c) :: (hp ++ H) := by rw [hpe]; simp
  rw [h1.ldH (b := b) (c := [str sel, .slice ua m.units.length uc, vL, vN, vS, vX]) (t := Ty.code_maker) (fr := (0, 0)) hbm 1 _ (by simp)]
  try simp only [↓E1, ↓E2, ↓E3, Nat.reduceAdd]
  have h2 := h1.drew
  -- the unit
  suffices hpush : ld (ptr b 1) (fun t19 w => bd [.int .i64 0, .int .i64 0, .slice none 0 0] [(0, 1, i64 (nn : Int)), (1, 1, i64 ((ns.length : Nat) : Int))] (fun t25 w =>
      bs 56 [.int .i64 0, .int .i64 0, .slice none 0 0] 1 [(0, 3, t25)] (fun t26 w => rk false (ptr b 1) t19 (ap 56 3 40 [.int .i64 0, .int .i64 0, .slice none 0 0] t19 t26 (fun t27 w => st 1 (ptr b 1) t27 _ w) w) w) w) w) w1.drew by
    rw [h2.ldH (b := b) (c := [str sel, .slice ua m.units.length uc, vL, vN, vS, vX]) (t := Ty.code_maker) (fr := (0, 0)) hbm 1 _ (by simp)] at hpush ⊢
    rw [h2.ld0 3 _ (by omega), g3]
    try simp only [↓E1, ↓E2, ↓E3, Nat.reduceAdd]
    rw [h2.ld0 4 _ (by omega), g4]
    try simp only [↓E1, ↓E2, ↓E3, Nat.reduceAdd]
    exact hpush
  refine c_pushU hM nn ns.length (by omega) (toM h2) fun hp3 w3 hM3 h3 => ?_
  have h3 := toB h3
  have hun : unitOf k t nn ns.length ks.length (fun u' m' => stmtsC ks u' true m') m =
      (let r := stmtsC ks m.units.length true { m with units := m.units ++ [⟨nn, ns.length, []⟩] }
       bif r.2 then r.1
       else bif Nat.beq k 12 && !t.isEmpty then addI (addI (bif Nat.beq ks.length 0 then r.1 else addI r.1 m.units.length ⟨12, 0, 0⟩) m.units.length ⟨6, 0, 0⟩) m.units.length ⟨14, 0, 0⟩
       else addI (bif Nat.beq ks.length 0 then addI r.1 m.units.length ⟨7, 0, 0⟩ else r.1) m.units.length ⟨13, 0, 0⟩) := rfl
  rw [hun] at hR
  have hl1 := le_push m nn ns.length
  have hu1 : m.units.length < ({ m with units := m.units ++ [⟨nn, ns.length, []⟩] } : MK).units.length := by simp
  have hn1 : nUs ks ≤ ({ m with units := m.units ++ [⟨nn, ns.length, []⟩] } : MK).uses.length := hnk
  have ht1 : tot { m with units := m.units ++ [⟨nn, ns.length, []⟩] } + 16 * msrs ks + 8 ≤ 1073741824 := by have := hl1.tot; omega
  generalize ({ m with units := m.units ++ [⟨nn, ns.length, []⟩] } : MK) = m1 at hM3 hR hu1 hn1 ht1
  generalize hude : m.units.length = u at hR hu1
  clear hpe hbm h2 h1 hur hgU hgL hgN hgS hX hun hl1
  try simp only [↓E1, ↓E2, ↓E3, Nat.reduceAdd]
  rw [h3.ld0 5 _ (by omega), g5]
  try simp only [↓E1, ↓E2, ↓E3, Nat.reduceAdd]
  -- a step is put
  have add : ∀ (op : Nat) (m2 : MK) (X : Hp) (hp2 : Hp) (w' : World) (K : World → Prop), MR g sel b m2 hp2 → u < m2.units.length → tot m2 ≤ 1073741824 → Sat g w' (X ++ (hp2 ++ H)) → (∀ hp' w', MR g sel b (addI m2 u ⟨op, 0, 0⟩) hp' → Sat g w' (X ++ (hp' ++ H)) → K w') →
      Tr P F.code_maker_add [ptr b 0, i64 (u : Int), i64 (op : Int), i64 0, i64 0] w' (Vx.back (fun _ w => K w) (fun ch w => R (.panicked ch) w)) := by
    intro op m2 X hp2 w' K hM2 hu2 ht2 h hk
    refine c_add (a := 0) (bb := 0) (H := X ++ H) hM2 hu2 ht2 (Sat.pull h) fun hp' w'' hM' h' => ?_
    try simp only [↓E3]
    exact hk hp' w'' hM' (Sat.pull (A := hp') (hp := X) h')
  have hlen : ∀ (m2 : MK) (i : Ins), (addI m2 u i).units.length = m2.units.length := fun m2 i => modU_len _ _ _
  refine lp1 (fun q x w' => ∃ i m' hp', x = i64 ((i : Nat) : Int) ∧ q = ks.length - i ∧ i ≤ ks.length ∧ MR g sel b m' hp' ∧ u < m'.units.length ∧ nUs (ks.drop i) ≤ m'.uses.length ∧ tot m' + 16 * msrs (ks.drop i) + 8 ≤ 1073741824 ∧
      stmtsC (ks.drop i) u (Nat.beq i 0) m' = stmtsC ks u true m1 ∧ Sat g w' ((b3, box c) :: (hp' ++ H))) ks.length
    ⟨0, m1, hp3, rfl, rfl, by omega, hM3, hu1, hn1, ht1, rfl, h3⟩ ?_
  rintro q x w4 ⟨i, m4, hp4, rfl, rfl, hi, hM4, hu4, hn4, ht4, hst, h4⟩
  try simp only [↓E1, ↓E2, ↓E3]
  rw [cnd_dec]
  constructor
  · intro hlt
    obtain ⟨x, hx⟩ : ∃ x, ks[i]? = some x := ⟨_, List.getElem?_eq_getElem (by omega)⟩
    have hxm : x ∈ ks := List.mem_of_getElem? hx
    obtain ⟨hx1, hx2⟩ := ih x hxm
    refine hkr.ldI (Nat.le_refl _) hkv' (by omega) hx h4 fun c5 hc5 => ?_
    refine h4.al fun b6 w5 h5 => ?_
    refine st_box (c2 := zN) h5 hc5.len rfl hc5.one fun w6 h6 => ?_
    have hdr : ks.drop i = x :: ks.drop (i + 1) := by
      rw [List.drop_eq_getElem_cons (List.getElem?_eq_some_iff.1 hx).1, (List.getElem?_eq_some_iff.1 hx).2]
    rw [hdr] at hn4 ht4 hst
    simp only [msrs, nUs] at hn4 ht4
    simp only [stmtsC] at hst
    have hpos := msr_pos x
    have hxk := nUs_kids x
    have hxm2 := msrs_kids x
    obtain ⟨m5, hm5⟩ : ∃ m5, m5 = bif Nat.beq i 0 then m4 else addI m4 u ⟨12, 0, 0⟩ := ⟨_, rfl⟩
    rw [← hm5] at hst
    have hle5 : Le m4 m5 0 1 := by
      rw [hm5]
      cases Nat.beq i 0
      · exact le_add _ _ _
      · exact (Le.refl m4).weak (Nat.le_refl _) (by omega)
    have u5 := hle5.uses
    have un5 := hle5.units
    have t5 := hle5.tot
    refine jn0 (fun w' => ∃ hp', MR g sel b m5 hp' ∧ Sat g w' ((b6, box c5) :: (b3, box c) :: (hp' ++ H))) ?_ ?_
    · rintro w7 ⟨hp7, hM7, h7⟩
      have hc5l := hc5.len
      obtain ⟨kx, tx, px, nx, nsx, ksx⟩ := x
      have hc5' := hc5
      cases hc5' with
      | @mk _ _ _ _ _ _ nvx kvx kcsx _ hkvx hklx hkrx =>
      try simp only [↓E1, ↓E2, ↓E3, Nat.reduceAdd]
      rw [h7.ld0 0 _ (by simp)]
      try simp only [↓E1, ↓E2, ↓E3, Nat.reduceAdd]
      rw [cnd_dec]
      constructor
      · intro hk11
        have hb : Nat.beq kx 11 = true := by
          have : kx = 11 := by omega
          rw [this]; rfl
        obtain ⟨e, he, hPe⟩ := hx2 hb
        have he : ksx = [e] := he
        subst he
        have hkrx' : KR g kcsx [e] := ⟨hklx, hkrx⟩
        try simp only [↓E1, ↓E2, ↓E3, Nat.reduceAdd]
        rw [h7.ld0 5 _ (by simp)]
        try simp only [↓E1, ↓E2, ↓E3, Nat.reduceAdd]
        refine hkrx'.ldI (n := 1) (i := 0) (Nat.le_refl _) (by rw [show (1 : Nat) * 6 = [e].length * 6 from rfl, hkrx'.flatLen]; exact hkvx) (by decide) rfl h7 fun ce hce => ?_
        try simp only [↓E1, ↓E2, ↓E3, Nat.reduceAdd]
        have hb' : Nat.beq (Node.mk kx tx px nx nsx [e]).kind 11 = true := hb
        rw [hb'] at hst
        simp only [cond_true] at hst
        simp only [msr, nU, msrs, nUs, Node.kids] at hn4 ht4 hxk hxm2
        have hle := (le_part e).1 u m5
        have l1 := hle.uses
        have l2 := hle.units
        have l3 := hle.tot
        refine hPe hce hM7 (by omega) (by omega) (by omega) (Sat.pull (A := [(b6, _), (b3, _)]) h7) fun hp8 w8 hM8 h8 => ?_
        try simp only [↓E1, ↓E2, ↓E3, Nat.reduceAdd]
        refine add 14 _ [] hp8 w8 _ hM8 (by omega) (by omega) (Sat.pull (A := hp8) (hp := [(b6, _), (b3, _)]) h8).tail.tail fun hp9 w9 hM9 h9 => ?_
        refine hR hp9 w9 ?_ h9
        rw [← hst]
        exact hM9
      · intro hk11
        have hb : Nat.beq kx 11 = false := by
          cases hb : Nat.beq kx 11 with
          | false => rfl
          | true => have := Nat.eq_of_beq_eq_true hb; omega
        have hb' : Nat.beq (Node.mk kx tx px nx nsx ksx).kind 11 = false := hb
        rw [hb'] at hst
        simp only [cond_false] at hst
        have hle := (le_part (.mk kx tx px nx nsx ksx)).1 u m5
        have l1 := hle.uses
        have l2 := hle.units
        have l3 := hle.tot
        refine h7.ldn0 (c := _) rfl ?_
        try simp only [↓E1, ↓E2, ↓E3, Nat.reduceAdd]
        refine hx1 hb hc5 hM7 (by omega) (by omega) (by omega) (Sat.pull (A := [(b6, _), (b3, _)]) h7) fun hp8 w8 hM8 h8 => ?_
        try simp only [↓E1, ↓E2, ↓E3, Nat.reduceAdd]
        rw [wrap64_succ (by omega)]
        exact ⟨ks.length - (i + 1), by omega, _, rfl, i + 1, _, hp8, rfl, rfl, by omega, hM8, by omega, by omega, by omega, hst, (Sat.pull (A := hp8) (hp := [(b6, _), (b3, _)]) h8).tail⟩
    · intro k2 hk2
      rw [cnd_dec]
      constructor
      · intro hpos0
        have hb0 : Nat.beq i 0 = false := by
          cases hb : Nat.beq i 0 with
          | false => rfl
          | true => have := Nat.eq_of_beq_eq_true hb; omega
        rw [hb0, cond_false] at hm5
        try simp only [↓E1, ↓E2, ↓E3, Nat.reduceAdd]
        refine add 12 m4 [(b6, _), (b3, _)] hp4 w6 _ hM4 hu4 (by omega) h6 fun hp7 w7 hM7 h7 => ?_
        try simp only [↓E3]
        exact hk2 _ ⟨hp7, by rw [hm5]; exact hM7, h7⟩
      · intro hz
        have : i = 0 := by omega
        subst this
        try simp only [↓E3]
        exact hk2 _ ⟨hp4, by rw [hm5]; exact hM4, h6⟩
  · intro hge
    have : i = ks.length := by omega
    subst this
    rw [List.drop_length] at hst
    simp only [stmtsC] at hst
    rw [← hst] at hR
    simp only [cond_false] at hR
    simp only [List.drop_length, msrs] at ht4
    -- the ends
    have hself : ∀ (m5 : MK) (hp5 : Hp) (w5 : World), MR g sel b m5 hp5 → u < m5.units.length → tot m5 + 4 ≤ 1073741824 → Sat g w5 ((b3, box c) :: (hp5 ++ H)) → (∀ hp' w', MR g sel b (addI (addI m5 u ⟨6, 0, 0⟩) u ⟨14, 0, 0⟩) hp' → Sat g w' (hp' ++ H) → R (.returned (.tuple #[])) w') →
        Tr P F.code_maker_add [ptr b 0, i64 (u : Int), i64 6, i64 0, i64 0] w5 (Vx.back (fun _ w => Tr P F.code_maker_add [ptr b 0, i64 (u : Int), i64 14, i64 0, i64 0] w (Vx.back (fun _ w => R (.returned (.tuple #[])) w) (fun ch w => R (.panicked ch) w))) (fun ch w => R (.panicked ch) w)) := by
      intro m5 hp5 w5 hM5 hu5 ht5 h5 hr
      refine add 6 m5 [(b3, _)] hp5 w5 _ hM5 hu5 (by omega) h5 fun hp6 w6 hM6 h6 => ?_
      refine add 14 _ [(b3, _)] hp6 w6 _ hM6 (by rw [hlen]; exact hu5) (by have := (le_add m5 u ⟨6, 0, 0⟩).tot; omega) h6 fun hp7 w7 hM7 h7 => ?_
      exact hr hp7 w7 hM7 (Sat.tail h7)
    have hend : ∀ (m5 : MK) (hp5 : Hp) (w5 : World), MR g sel b m5 hp5 → u < m5.units.length → tot m5 + 4 ≤ 1073741824 → Sat g w5 ((b3, box c) :: (hp5 ++ H)) → (∀ hp' w', MR g sel b (addI m5 u ⟨13, 0, 0⟩) hp' → Sat g w' (hp' ++ H) → R (.returned (.tuple #[])) w') →
        Tr P F.code_maker_add [ptr b 0, i64 (u : Int), i64 13, i64 0, i64 0] w5 (Vx.back (fun _ w => R (.returned (.tuple #[])) w) (fun ch w => R (.panicked ch) w)) := by
      intro m5 hp5 w5 hM5 hu5 ht5 h5 hr
      refine add 13 m5 [(b3, _)] hp5 w5 _ hM5 hu5 (by omega) h5 fun hp6 w6 hM6 h6 => ?_
      exact hr hp6 w6 hM6 (Sat.tail h6)
    refine jn1 (fun x w' => x = .bool (Nat.beq k 12 && !t.isEmpty) ∧ w' = w4) ?_ ?_
    · rintro x w5 ⟨rfl, rfl⟩
      refine jn0 (fun w' => (Nat.beq k 12 && !t.isEmpty) = true ∧ ∃ hp', MR g sel b (bif Nat.beq ks.length 0 then m4 else addI m4 u ⟨12, 0, 0⟩) hp' ∧ Sat g w' ((b3, box c) :: (hp' ++ H))) ?_ ?_
      · rintro w6 ⟨hme, hp6, hM6, h6⟩
        rw [hme] at hR
        simp only [cond_true] at hR
        try simp only [↓E1, ↓E2, ↓E3, Nat.reduceAdd]
        have hc : u < (bif Nat.beq ks.length 0 then m4 else addI m4 u ⟨12, 0, 0⟩).units.length ∧ tot (bif Nat.beq ks.length 0 then m4 else addI m4 u ⟨12, 0, 0⟩) ≤ tot m4 + 1 := by
          cases Nat.beq ks.length 0
          · exact ⟨by rw [cond_false, hlen]; exact hu4, (le_add m4 u ⟨12, 0, 0⟩).tot⟩
          · exact ⟨hu4, Nat.le_succ _⟩
        exact hself _ hp6 w6 hM6 hc.1 (by omega) h6 hR
      · intro k4 hk4
        refine jn0 (fun w' => w' = w5 ∧ ((Nat.beq k 12 && !t.isEmpty) = true → Nat.beq ks.length 0 = true)) ?_ ?_
        · rintro w6 ⟨rfl, hz⟩
          rw [cnd_eq]
          constructor
          · intro hme
            try simp only [↓E3]
            refine hk4 _ ⟨hme, hp4, ?_, h4⟩
            rw [hz hme]
            exact hM4
          · intro hme
            rw [hme] at hR
            simp only [cond_false] at hR
            try simp only [↓E1, ↓E2, ↓E3, Nat.reduceAdd]
            rw [h4.ld0 5 _ (by omega), g5]
            try simp only [↓E1, ↓E2, ↓E3, Nat.reduceAdd]
            rw [cnd_dec]
            constructor
            · intro h0
              have : Nat.beq ks.length 0 = true := by
                have : ks.length = 0 := by omega
                rw [this]; rfl
              rw [this] at hR
              simp only [cond_true] at hR
              try simp only [↓E1, ↓E2, ↓E3, Nat.reduceAdd]
              refine add 7 m4 [(b3, _)] hp4 w6 _ hM4 hu4 (by omega) h4 fun hp7 w7 hM7 h7 => ?_
              exact hend _ hp7 w7 hM7 (by rw [hlen]; exact hu4) (by have := (le_add m4 u ⟨7, 0, 0⟩).tot; omega) h7 hR
            · intro h0
              have : Nat.beq ks.length 0 = false := by
                cases hb : Nat.beq ks.length 0 with
                | false => rfl
                | true => have := Nat.eq_of_beq_eq_true hb; omega
              rw [this] at hR
              simp only [cond_false] at hR
              try simp only [↓E1, ↓E2, ↓E3, Nat.reduceAdd]
              exact hend _ hp4 w6 hM4 hu4 (by omega) h4 hR
        · intro k5 hk5
          rw [cnd_eq]
          constructor
          · intro hme
            try simp only [↓E1, ↓E2, ↓E3, Nat.reduceAdd]
            rw [h4.ld0 5 _ (by omega), g5]
            try simp only [↓E1, ↓E2, ↓E3, Nat.reduceAdd]
            rw [cnd_dec]
            constructor
            · intro hpos
              have hb : Nat.beq ks.length 0 = false := by
                cases hb : Nat.beq ks.length 0 with
                | false => rfl
                | true => have := Nat.eq_of_beq_eq_true hb; omega
              try simp only [↓E1, ↓E2, ↓E3, Nat.reduceAdd]
              refine add 12 m4 [(b3, _)] hp4 w5 _ hM4 hu4 (by omega) h4 fun hp7 w7 hM7 h7 => ?_
              try simp only [↓E3]
              refine hk4 _ ⟨hme, hp7, ?_, h7⟩
              rw [hb]
              exact hM7
            · intro hz
              try simp only [↓E3]
              refine hk5 _ ⟨rfl, fun _ => ?_⟩
              have : ks.length = 0 := by omega
              rw [this]; rfl
          · intro hme
            try simp only [↓E3]
            refine hk5 _ ⟨rfl, fun h => ?_⟩
            rw [h] at hme; simp at hme
    · intro k3 hk3
      try simp only [↓E1, ↓E2, ↓E3, Nat.reduceAdd]
      rw [h4.ld0 0 _ (by omega), g0]
      try simp only [↓E1, ↓E2, ↓E3, Nat.reduceAdd]
      rw [cnd_dec]
      constructor
      · intro hk12
        have : k = 12 := by omega
        subst this
        try simp only [↓E1, ↓E2, ↓E3, Nat.reduceAdd]
        rw [h4.ld0 1 _ (by omega), g1]
        have es : (Value.string { data := #[] }) = str [] := rfl
        try rw [es]
        try simp only [↓E1, ↓E2, ↓E3, Nat.reduceAdd]
        refine hk3 _ _ ⟨?_, rfl⟩
        congr 1
        cases t <;> simp
      · intro hk12
        try simp only [↓E3]
        refine hk3 _ _ ⟨?_, rfl⟩
        have : Nat.beq k 12 = false := by
          cases hb : Nat.beq k 12 with
          | false => rfl
          | true => have := Nat.eq_of_beq_eq_true hb; omega
        rw [this, Bool.false_and]
end Go.Vx
namespace Go.Vx
open Go Go.Proofs
variable {R : Ending → World → Prop} {g : G} {w : World} {H hp T : Hp}

theorem KR.tail {kcs : List (List Value)} {c : List Value} {k : Node} {ks : List Node} (h : KR g (c :: kcs) (k :: ks)) : KR g kcs ks := ⟨by simpa using h.1, fun i c' k' h1 h2 => h.2 (i + 1) c' k' (by simpa using h1) (by simpa using h2)⟩
theorem KR.split {kcs : List (List Value)} {k : Node} {ks : List Node} (h : KR g kcs (k :: ks)) : ∃ c kcs', kcs = c :: kcs' ∧ NodeR g c k ∧ KR g kcs' ks := by
  cases kcs with
  | nil => have := h.1; simp at this
  | cons c kcs => exact ⟨c, kcs, rfl, h.2 0 c k rfl rfl, h.tail⟩

/-- What is told of all parts. -/
def AllM (n : Node) : Prop := (OkE n → PartM n) ∧ (∀ y ∈ n.kids, OkE y → PartM y)

theorem okE_kind {n : Node} (h : OkE n) : Nat.beq n.kind 11 = false := by
  cases h with
  | leaf h => rcases h with rfl | rfl | rfl <;> rfl
  | _ => rfl

theorem stmtM_of {x : Node} (h : OkS x) (hA : AllM x) : StmtM x := by
  cases h with
  | expr h => exact ⟨fun _ => hA.1 h, fun h11 => by rw [okE_kind h] at h11; simp at h11⟩
  | ret h => exact ⟨fun h11 => by simp [Node.kind] at h11, fun _ => ⟨_, rfl, hA.2 _ (by simp [Node.kids]) h⟩⟩

theorem c_partM : ∀ n, AllM n := by
  refine Node.ind fun k t p nn ns ks ih => ⟨?_, fun y hy hok => (ih y hy).1 hok⟩
  intro hok g w H hp R sel b u m c hn hM hu hnu ht hS hR
  apply t_code_maker_part
  unfold d_code_maker_part
  have hn0 := hn
  cases hn with
  | @mk _ _ _ _ _ _ nv kv kcs hnv hkv hkl hkr =>
  have hkr : KR g kcs ks := ⟨hkl, hkr⟩
  simp only [msr] at ht
  have hkl2 := len_msrs ks
  obtain ⟨ka, kc, rfl, hkc, _, _⟩ := id hkv
  obtain ⟨c, hcd⟩ : ∃ c, c = [i64 (k : Int), str t, i64 (p : Int), i64 (nn : Int), nv, Value.slice ka ks.length kc] := ⟨_, rfl⟩
  rw [← hcd] at hn0 ⊢
  have hclen : c.length = 6 := by rw [hcd]; rfl
  have g0 : c.getD 0 undef = i64 (k : Int) := by rw [hcd]; rfl
  have g1 : c.getD 1 undef = str t := by rw [hcd]; rfl
  have g5 : c.getD 5 undef = Value.slice ka ks.length kc := by rw [hcd]; rfl
  clear hcd
  have hkv' : Sl g 6 (.slice ka ks.length kc) ks.length (kcs.flatten.take (ks.length * 6)) := by rw [hkr.flatLen]; exact hkv
  refine hS.al fun b5 w1 h1 => ?_
  have h1 : Sat g w1 ((b5, box c) :: (hp ++ H)) := by
    have e : (Value.agg c.toArray).cells.toList = c := by simp [Value.cells]
    rw [e] at h1
    exact h1
  have toM : ∀ {w' : World} {hp' : Hp}, Sat g w' ((b5, box c) :: (hp' ++ H)) → Sat g w' (hp' ++ ((b5, box c) :: H)) := fun h => h.perm List.perm_middle.symm
  have toB : ∀ {w' : World} {hp' : Hp}, Sat g w' (hp' ++ ((b5, box c) :: H)) → Sat g w' ((b5, box c) :: (hp' ++ H)) := fun h => h.perm List.perm_middle
  have hlen : ∀ (m2 : MK) (i : Ins), (addI m2 u i).units.length = m2.units.length := fun m2 i => modU_len _ _ _
  -- a step is put
  have add : ∀ (op a bb : Nat) (m2 : MK) (X : Hp) (hp2 : Hp) (w' : World) (K : World → Prop), MR g sel b m2 hp2 → u < m2.units.length → tot m2 ≤ 1073741824 → Sat g w' (X ++ (hp2 ++ H)) → (∀ hp' w', MR g sel b (addI m2 u ⟨op, a, bb⟩) hp' → Sat g w' (X ++ (hp' ++ H)) → K w') →
      Tr P F.code_maker_add [ptr b 0, i64 (u : Int), i64 (op : Int), i64 (a : Int), i64 (bb : Int)] w' (Vx.back (fun _ w => K w) (fun ch w => R (.panicked ch) w)) := by
    intro op a bb m2 X hp2 w' K hM2 hu2 ht2 h hk
    refine c_add (H := X ++ H) hM2 hu2 ht2 (Sat.pull h) fun hp' w'' hM' h' => ?_
    try simp only [↓E3]
    exact hk hp' w'' hM' (Sat.pull (A := hp') (hp := X) h')
  try simp only [↓E1, ↓E2, ↓E3, Nat.reduceAdd]
  rw [h1.ld0 0 _ (by omega), g0]
  try simp only [↓E1, ↓E2, ↓E3, Nat.reduceAdd]
  have ne : ∀ j : Nat, ¬ ((k : Int) = (j : Int)) → Nat.beq k j = false := by
    intro j h
    cases hb : Nat.beq k j with
    | false => rfl
    | true => exact absurd (by rw [Nat.eq_of_beq_eq_true hb]) h
  have dk : ∀ j : Nat, decide ((k : Int) = (j : Int)) = Nat.beq k j := by
    intro j
    rw [Bool.eq_iff_iff, decide_eq_true_eq]
    constructor
    · intro h
      have : k = j := by omega
      rw [this]; exact Nat.beq_refl _
    · intro h
      have := Nat.eq_of_beq_eq_true h
      omega
  refine jn1 (fun x w' => x = .bool (Nat.beq k 1 || (Nat.beq k 2 || (Nat.beq k 3 || Nat.beq k 4))) ∧ w' = w1) ?_ ?_
  rotate_left
  · intro k1 hk1
    have d1 := dk 1
    have d2 := dk 2
    have d3 := dk 3
    have d4 := dk 4
    rw [show decide ((k : Int) = 1) = Nat.beq k 1 from d1, show decide ((k : Int) = 2) = Nat.beq k 2 from d2, show decide ((k : Int) = 3) = Nat.beq k 3 from d3, show decide ((k : Int) = 4) = Nat.beq k 4 from d4]
    cases e1 : Nat.beq k 1
    · try simp only [↓E3]
      cases e2 : Nat.beq k 2
      · try simp only [↓E3]
        cases e3 : Nat.beq k 3
        · try simp only [↓E3]
          exact hk1 _ _ ⟨by rw [e1, e2, e3]; rfl, rfl⟩
        · try simp only [↓E3]
          exact hk1 _ _ ⟨by rw [e1, e2, e3]; rfl, rfl⟩
      · try simp only [↓E3]
        exact hk1 _ _ ⟨by rw [e1, e2]; rfl, rfl⟩
    · try simp only [↓E3]
      exact hk1 _ _ ⟨by rw [e1]; rfl, rfl⟩
  rintro x w' ⟨rfl, rfl⟩
  rw [cnd_eq]
  constructor
  · -- a literal
    intro hlit
    simp only [partC, hlit, cond_true] at hR
    have hlN : LitN (.mk k t p nn ns ks) := by
      cases hok with
      | leaf h => exact .leaf (by omega)
      | list h => exact .list h
      | _ => simp at hlit
    have h2 := h1.drew
    try simp only [↓E1, ↓E2, ↓E3, Nat.reduceAdd]
    refine h2.ldn0 (c := c) hclen.symm ?_
    try simp only [↓E1, ↓E2, ↓E3, Nat.reduceAdd]
    refine c_Text hlN hn0 (by simp only [msr]; omega) h2 fun w3 h3 => ?_
    try simp only [↓E1, ↓E2, ↓E3, Nat.reduceAdd]
    refine c_onceL hM (by omega) (toM h3) fun hp4 w4 hM4 h4 => ?_
    try simp only [↓E1, ↓E2, ↓E3, Nat.reduceAdd]
    refine add 0 _ 0 _ [(b5, _)] hp4 w4 _ hM4 hu (by have := (le_lit m (litS (.mk k t p nn ns ks))).tot; omega) (toB h4) fun hp6 w6 hM6 h6 => ?_
    exact hR hp6 w6 hM6 (Sat.tail h6)
  intro hnlit
  simp only [partC, hnlit, cond_false] at hR
  rw [cnd_dec]
  constructor
  · intro hk5
    have : k = 5 := by omega
    subst this
    try simp only [↓E1, ↓E2, ↓E3, Nat.reduceAdd]
    have hne : m.uses ≠ [] := by
      intro h0
      rw [h0] at hnu
      simp [nU] at hnu <;> omega
    refine c_mname hM hu hne (by omega) (toM h1) fun hp2 w2 hM2 h2 => ?_
    try simp only [↓E3]
    exact hR hp2 w2 hM2 (toB h2).tail
  intro hk5
  have n5 := ne 5 hk5
  simp only [n5, cond_false] at hR
  try simp only [↓E1, ↓E2, ↓E3, Nat.reduceAdd]
  rw [cnd_dec]
  constructor
  · intro hk6
    have : k = 6 := by omega
    subst this
    cases hok with
    | leaf h => omega
    | @set _ _ e he =>
    have hR : ∀ hp' w', MR g sel b (bif (useH m).kind == 3 then addI (partC e u (popU m)) u ⟨2, (useH m).depth, (useH m).index⟩ else addI (partC e u (popU m)) u ⟨4, (useH m).index, 0⟩) hp' → Sat g w' (hp' ++ H) → R (.returned (.tuple #[])) w' := by
      intro hp' w' hM' h'
      refine hR hp' w' ?_ h'
      simp only [headC]
      exact hM'
    have hPe : PartM e := (ih e (by simp)).1 he
    try simp only [↓E1, ↓E2, ↓E3, Nat.reduceAdd]
    have hne : m.uses ≠ [] := by
      intro h0
      rw [h0] at hnu
      simp [nU] at hnu <;> omega
    refine c_use hM hne (toM h1) fun hp2 w2 hM2 h2 => ?_
    have h2 := toB h2
    have hlep := le_pop m
    have hupop : u < (popU m).units.length := hu
    have hnpop : nU e ≤ (popU m).uses.length := by
      have := hlep.uses
      simp only [nU, nUs] at hnu
      have : 1 + nU e ≤ m.uses.length := by simpa using hnu
      omega
    have htpop : tot (popU m) ≤ tot m := hlep.tot
    generalize useH m = ux at hR
    generalize popU m = m2 at hR hM2 hupop hnpop htpop
    try simp only [↓E1, ↓E2, ↓E3, Nat.reduceAdd]
    refine h2.al fun b6 w3 h3 => ?_
    have h3 : Sat g w3 ((b6, ubx use0) :: (b5, box c) :: (hp2 ++ H)) := h3
    refine st_all (c := useC ux) (c2 := useC use0) h3 rfl rfl rfl fun w4 h4 => ?_
    try simp only [↓E1, ↓E2, ↓E3, Nat.reduceAdd]
    rw [h4.ld1 5 _ (by omega), g5]
    try simp only [↓E1, ↓E2, ↓E3, Nat.reduceAdd]
    refine hkr.ldI (i := 0) (Nat.le_refl _) hkv' (by simp) rfl h4 fun ce hce => ?_
    try simp only [↓E1, ↓E2, ↓E3, Nat.reduceAdd]
    simp only [msrs] at ht
    have hle := (le_part e).1 u m2
    have l2 := hle.units
    have l3 := hle.tot
    have hpe := msr_pos e
    refine hPe hce hM2 hupop hnpop (by omega) (Sat.pull (A := [(b6, _), (b5, _)]) h4) fun hp5 w5 hM5 h5 => ?_
    have h5 : Sat g w5 ((b6, .cells (useC ux).toArray Ty.scope_Use) :: (b5, box c) :: (hp5 ++ H)) := Sat.pull (A := hp5) (hp := [(b6, _), (b5, _)]) h5
    have q2 : (useC ux).getD 2 undef = i64 ux.kind := rfl
    have q3 : (useC ux).getD 3 undef = i64 (ux.depth : Int) := rfl
    have q4 : (useC ux).getD 4 undef = i64 (ux.index : Int) := rfl
    have ul : 5 < (useC ux).length := by simp [useC]
    try simp only [↓E1, ↓E2, ↓E3, Nat.reduceAdd]
    rw [h5.ld0 2 _ (by omega), q2]
    try simp only [↓E1, ↓E2, ↓E3, Nat.reduceAdd]
    rw [cnd_dec]
    constructor
    · intro hk3
      rw [hk3] at hR
      try simp only [↓E1, ↓E2, ↓E3, Nat.reduceAdd]
      rw [h5.ld0 3 _ (by omega), q3]
      try simp only [↓E1, ↓E2, ↓E3, Nat.reduceAdd]
      rw [h5.ld0 4 _ (by omega), q4]
      try simp only [↓E1, ↓E2, ↓E3, Nat.reduceAdd]
      refine add 2 ux.depth ux.index _ [(b6, _), (b5, _)] hp5 w5 _ hM5 (by omega) (by omega) h5 fun hp6 w6 hM6 h6 => ?_
      exact hR hp6 w6 hM6 (Sat.tail (Sat.tail h6))
    · intro hk3
      have e3 : (ux.kind == 3) = false := beq_eq_false_iff_ne.2 hk3
      rw [e3] at hR
      try simp only [↓E1, ↓E2, ↓E3, Nat.reduceAdd]
      rw [h5.ld0 4 _ (by omega), q4]
      try simp only [↓E1, ↓E2, ↓E3, Nat.reduceAdd]
      refine add 4 ux.index 0 _ [(b6, _), (b5, _)] hp5 w5 _ hM5 (by omega) (by omega) h5 fun hp6 w6 hM6 h6 => ?_
      exact hR hp6 w6 hM6 (Sat.tail (Sat.tail h6))
  intro hk6
  have n6 := ne 6 hk6
  simp only [n6, cond_false] at hR
  have hnk : nUs ks ≤ m.uses.length := by have := nUs_kids (.mk k t p nn ns ks); simp only [Node.kids] at this; omega
  try simp only [↓E1, ↓E2, ↓E3, Nat.reduceAdd]
  rw [cnd_dec]
  constructor
  · intro hk7
    have : k = 7 := by omega
    subst this
    cases hok with
    | leaf h => omega
    | @send _ _ r ks hr hks =>
    have hR : ∀ hp' w', MR g sel b (sendC u (isSuper r) t ks.length (partsC ks u (partC r u m))) hp' → Sat g w' (hp' ++ H) → R (.returned (.tuple #[])) w' := by
      intro hp' w' hM' h'
      refine hR hp' w' ?_ h'
      simp only [partsC]
      exact hM'
    obtain ⟨cr, kcs', rfl, hcr, hkr2⟩ := hkr.split
    try simp only [↓E1, ↓E2, ↓E3, Nat.reduceAdd]
    rw [h1.ld0 5 _ (by omega), g5]
    try simp only [↓E1, ↓E2, ↓E3, Nat.reduceAdd]
    simp only [msrs, nUs] at ht hnk
    have hPr : PartM r := (ih r (by simp)).1 hr
    have hle := (le_part r).1 u m
    have l1 := hle.uses
    have l2 := hle.units
    have l3 := hle.tot
    have hpr := msr_pos r
    refine hkr.ldI (i := 0) (Nat.le_refl _) hkv' (by simp) rfl h1 fun ce hce => ?_
    try simp only [↓E1, ↓E2, ↓E3, Nat.reduceAdd]
    refine hPr hce hM hu (by omega) (by omega) (toM h1) fun hp2 w2 hM2 h2 => ?_
    have h3 := (toB h2).drew
    try simp only [↓E1, ↓E2, ↓E3, Nat.reduceAdd]
    rw [h3.ld0 5 _ (by omega), g5]
    try simp only [↓E1, ↓E2, ↓E3, Nat.reduceAdd]
    refine hkr.ldI (i := 0) (Nat.le_refl _) hkv' (by simp) rfl h3 fun ce2 hce2 => ?_
    try simp only [↓E1, ↓E2, ↓E3, Nat.reduceAdd]
    rw [h3.ld0 1 _ (by omega), g1]
    try simp only [↓E1, ↓E2, ↓E3, Nat.reduceAdd]
    rw [h3.ld0 5 _ (by omega), g5]
    try simp only [↓E1, ↓E2, ↓E3, Nat.reduceAdd]
    refine slL_lo _ _ _ _ _ _ (by decide) (by simp; omega) hkc ?_
    have hf := Sl.from1 (sz := 6) hkv (by simp) (by decide)
    have hf' : Sl g 6 (Value.slice (if (kc : Int) = 1 then ka else ka.map (·.add ((1 : Int).toNat * 6))) ((r :: ks).length - (1 : Int).toNat) (kc - (1 : Int).toNat)) ks.length kcs'.flatten := by
      have e : (cr :: kcs').flatten.drop 6 = kcs'.flatten := by
        rw [List.flatten_cons, List.drop_left' hcr.len]
      rw [e] at hf
      exact hf
    try simp only [↓E1, ↓E2, ↓E3, Nat.reduceAdd]
    refine c_send (fun y hy => (ih y (by simp [hy])).1 (hks y hy)) hce2 hf' hkr2 hM2 (by omega) (by omega) (by omega) (toM h3) fun hp4 w4 hM4 h4 => ?_
    try simp only [↓E3]
    exact hR hp4 w4 hM4 (toB h4).tail
  intro hk7
  have n7 := ne 7 hk7
  simp only [n7, cond_false] at hR
  try simp only [↓E1, ↓E2, ↓E3, Nat.reduceAdd]
  rw [cnd_dec]
  constructor
  · intro hk8
    have : k = 8 := by omega
    subst this
    cases hok with
    | leaf h => omega
    | @casc _ r ms hr hmne hms =>
    have hR : ∀ hp' w', MR g sel b (cascC ms u (isSuper r) (partC r u m)) hp' → Sat g w' (hp' ++ H) → R (.returned (.tuple #[])) w' := by
      intro hp' w' hM' h'
      refine hR hp' w' ?_ h'
      simp only [cascT]
      exact hM'
    obtain ⟨cr, kcs', rfl, hcr, hkr2⟩ := hkr.split
    have hmpos : 0 < ms.length := List.length_pos_iff.2 hmne
    try simp only [↓E1, ↓E2, ↓E3, Nat.reduceAdd]
    rw [h1.ld0 5 _ (by omega), g5]
    try simp only [↓E1, ↓E2, ↓E3, Nat.reduceAdd]
    simp only [msrs, nUs] at ht hnk
    have hml2 := len_msrs ms
    have hPr : PartM r := (ih r (by simp)).1 hr
    have hle := (le_part r).1 u m
    have l1 := hle.uses
    have l2 := hle.units
    have l3 := hle.tot
    have hpr := msr_pos r
    refine hkr.ldI (i := 0) (Nat.le_refl _) hkv' (by simp) rfl h1 fun ce hce => ?_
    try simp only [↓E1, ↓E2, ↓E3, Nat.reduceAdd]
    refine hPr hce hM hu (by omega) (by omega) (toM h1) fun hp2 w2 hM2 h2 => ?_
    have h3 := toB h2
    generalize partC r u m = m2 at hR hM2 l1 l2 l3
    try simp only [↓E1, ↓E2, ↓E3, Nat.reduceAdd]
    rw [h3.ld0 5 _ (by omega), g5]
    try simp only [↓E1, ↓E2, ↓E3, Nat.reduceAdd]
    rw [h3.ld0 5 _ (by omega), g5]
    have elast : IntKind.i64.wrap ((((r :: ms).length : Nat) : Int) - 1) = ((ms.length : Nat) : Int) := by
      rw [wrap64_of (by rw [List.length_cons]; omega) (by rw [List.length_cons]; omega), List.length_cons]; omega
    rw [elast]
    try simp only [↓E1, ↓E2, ↓E3, Nat.reduceAdd]
    refine slL_eq _ _ _ _ _ _ _ _ (by decide) (by omega) (by simp at hkc; omega) ?_
    have hf := Sl.from1 (sz := 6) hkv (by simp) (by decide)
    obtain ⟨a', ha'⟩ : ∃ a', a' = (if (kc : Int) = 1 then ka else ka.map (·.add ((1 : Int).toNat * 6))) := ⟨_, rfl⟩
    rw [← ha'] at hf ⊢
    have hf1 : Sl g 6 (Value.slice a' ms.length (kc - 1)) ms.length kcs'.flatten := by
      have e : (cr :: kcs').flatten.drop 6 = kcs'.flatten := by
        rw [List.flatten_cons, List.drop_left' hcr.len]
      rw [e] at hf
      exact hf
    have hf2 : Sl g 6 (Value.slice a' (ms.length - 1) (kc - 1)) (ms.length - 1) (kcs'.flatten.take ((ms.length - 1) * 6)) := hf1.take (by omega)
    have ev : Value.slice a' (((ms.length : Nat) : Int).toNat - (1 : Int).toNat) (kc - (1 : Int).toNat) = Value.slice a' (ms.length - 1) (kc - 1) := by
      rw [Int.toNat_natCast]; rfl
    rw [ev]
    try simp only [↓E1, ↓E2, ↓E3, Nat.reduceAdd]
    refine lp1 (fun q x w' => ∃ i m' hp', x = i64 ((i : Nat) : Int) ∧ q = ms.length - i ∧ i ≤ ms.length - 1 ∧ MR g sel b m' hp' ∧ u < m'.units.length ∧ nUs (ms.drop i) ≤ m'.uses.length ∧ tot m' + 16 * msrs (ms.drop i) + 4 ≤ 1073741824 ∧
        cascC (ms.drop i) u (isSuper r) m' = cascC ms u (isSuper r) m2 ∧ Sat g w' ((b5, box c) :: (hp' ++ H))) ms.length
      ⟨0, m2, hp2, rfl, rfl, by omega, hM2, by omega, by simp only [List.drop_zero]; omega, by simp only [List.drop_zero]; omega, rfl, h3⟩ ?_
    rintro q x w4 ⟨i, m4, hp4, rfl, rfl, hi, hM4, hu4, hn4, ht4, hcc, h4⟩
    try simp only [↓E1, ↓E2, ↓E3]
    obtain ⟨x, hx⟩ : ∃ x, ms[i]? = some x := ⟨_, List.getElem?_eq_getElem (by omega)⟩
    have hxm : x ∈ ms := List.mem_of_getElem? hx
    have hdr : ms.drop i = x :: ms.drop (i + 1) := by
      rw [List.drop_eq_getElem_cons (List.getElem?_eq_some_iff.1 hx).1, (List.getElem?_eq_some_iff.1 hx).2]
    rw [hdr] at hn4 ht4 hcc
    simp only [msrs, nUs] at hn4 ht4
    simp only [cascC] at hcc
    have hxk := nUs_kids x
    have hxm2 := msrs_kids x
    have hPx := (ih x (by simp [hxm])).2
    have hokx := hms x hxm
    have hlm := fun mm => (le_part x).2.1 u (isSuper r) mm
    cases hokx with
    | @mk px tx ksx hkx =>
    simp only [Node.kids] at hxk hxm2 hPx hlm
    have hPx : ∀ y ∈ ksx, PartM y := fun y hy => hPx y hy (hkx y hy)
    have hmsg : ∀ mm, msgC (.mk 9 tx px 0 [] ksx) u (isSuper r) mm = sendC u (isSuper r) tx ksx.length (partsC ksx u mm) := fun mm => by simp only [msgC]
    rw [cnd_dec]
    constructor
    · intro hlt
      have hne : (ms.drop (i + 1)).isEmpty = false := by
        cases hd : ms.drop (i + 1) with
        | nil =>
          have := congrArg List.length hd
          simp at this
          omega
        | cons _ _ => rfl
      rw [hne, cond_false] at hcc
      refine hkr2.ldI (n := ms.length - 1) (by omega) hf2 (by omega) hx h4 fun c5 hc5 => ?_
      refine h4.al fun b9 w5 h5 => ?_
      refine st_box (c2 := zN) h5 hc5.len rfl hc5.one fun w6 h6 => ?_
      have l11 := le_add m4 u ⟨11, 0, 0⟩
      try simp only [↓E1, ↓E2, ↓E3, Nat.reduceAdd]
      refine add 11 0 0 m4 [(b9, _), (b5, _)] hp4 w6 _ hM4 hu4 (by omega) h6 fun hp7 w7 hM7 h7 => ?_
      have h8 : Sat g w7.drew ((b9, box c5) :: (b5, box c) :: (hp7 ++ H)) := h7.drew
      try simp only [↓E1, ↓E2, ↓E3, Nat.reduceAdd]
      rw [h8.ld1 5 _ (by omega), g5]
      try simp only [↓E1, ↓E2, ↓E3, Nat.reduceAdd]
      refine hkr.ldI (i := 0) (Nat.le_refl _) hkv' (by simp) rfl h8 fun ce2 hce2 => ?_
      cases hc5 with
      | @mk _ _ _ _ _ _ nvx kvx kcsx _ hkvx hklx hkrx =>
      try simp only [↓E1, ↓E2, ↓E3, Nat.reduceAdd]
      rw [h8.ld0 1 _ (by simp)]
      try simp only [↓E1, ↓E2, ↓E3, Nat.reduceAdd]
      rw [h8.ld0 5 _ (by simp)]
      try simp only [↓E1, ↓E2, ↓E3, Nat.reduceAdd]
      have u11 := l11.uses
      have un11 := l11.units
      have t11 := l11.tot
      refine c_send hPx hce2 hkvx ⟨hklx, hkrx⟩ hM7 (by omega) (by omega) (by omega) (Sat.pull (A := [(b9, _), (b5, _)]) h8) fun hp9 w9 hM9 h9 => ?_
      rw [← hmsg] at hM9
      have h9 := Sat.pull (A := hp9) (hp := [(b9, _), (b5, _)]) h9
      have lx := hlm (addI m4 u ⟨11, 0, 0⟩)
      have ux := lx.uses
      have unx := lx.units
      have tx' := lx.tot
      generalize msgC (.mk 9 tx px 0 [] ksx) u (isSuper r) (addI m4 u ⟨11, 0, 0⟩) = m9 at hM9 hcc ux unx tx'
      have l12 := le_add m9 u ⟨12, 0, 0⟩
      have u12 := l12.uses
      have un12 := l12.units
      have t12 := l12.tot
      try simp only [↓E1, ↓E2, ↓E3, Nat.reduceAdd]
      refine add 12 0 0 m9 [(b9, _), (b5, _)] hp9 w9 _ hM9 (by omega) (by omega) h9 fun hp10 w10 hM10 h10 => ?_
      try simp only [↓E1, ↓E2, ↓E3, Nat.reduceAdd]
      rw [wrap64_succ (by omega)]
      exact ⟨ms.length - (i + 1), by omega, _, rfl, i + 1, _, hp10, rfl, rfl, by omega, hM10, by omega, by omega, by omega, hcc, Sat.tail h10⟩
    · intro hge
      have hil : i = ms.length - 1 := by omega
      have hemp : ms.drop (i + 1) = [] := List.drop_eq_nil_of_le (by omega)
      rw [hemp] at hcc ht4 hn4
      simp only [List.isEmpty_nil, cond_true] at hcc
      simp only [msrs, nUs] at ht4 hn4
      rw [← hcc] at hR
      have h5 := h4.drew
      try simp only [↓E1, ↓E2, ↓E3, Nat.reduceAdd]
      rw [h5.ld0 5 _ (by omega), g5]
      try simp only [↓E1, ↓E2, ↓E3, Nat.reduceAdd]
      refine hkr.ldI (i := 0) (Nat.le_refl _) hkv' (by simp) rfl h5 fun ce2 hce2 => ?_
      try simp only [↓E1, ↓E2, ↓E3, Nat.reduceAdd]
      rw [h5.ld0 5 _ (by omega), g5]
      try simp only [↓E1, ↓E2, ↓E3, Nat.reduceAdd]
      have hx2 : (r :: ms)[ms.length]? = some (.mk 9 tx px 0 [] ksx) := by
        have : ms.length = i + 1 := by omega
        rw [this]
        exact hx
      refine hkr.atI (i := ms.length) (Nat.le_refl _) hkv' (by simp) hx2 h5 fun bq oq cq hcq hcell => ?_
      cases hcq with
      | @mk _ _ _ _ _ _ nvx kvx kcsx _ hkvx hklx hkrx =>
      have hc1 : g.cell? bq (oq + 1) = some (str tx) := hcell 1 _ rfl
      have hc5' : g.cell? bq (oq + 5) = some kvx := hcell 5 _ rfl
      try simp only [↓E1, ↓E2, ↓E3, Nat.reduceAdd]
      rw [h5.ldI hc1]
      try simp only [↓E1, ↓E2, ↓E3, Nat.reduceAdd]
      rw [h5.ld0 5 _ (by omega), g5]
      try simp only [↓E1, ↓E2, ↓E3, Nat.reduceAdd]
      refine hkr.atI (i := ms.length) (Nat.le_refl _) hkv' (by simp) hx2 h5 fun bz oz cz hcz hcellz => ?_
      cases hcz with
      | @mk _ _ _ _ _ _ nvz kvz kcsz _ hkvz hklz hkrz =>
      have hz5 : g.cell? bz (oz + 5) = some kvz := hcellz 5 _ rfl
      try simp only [↓E1, ↓E2, ↓E3, Nat.reduceAdd]
      rw [h5.ldI hz5]
      try simp only [↓E1, ↓E2, ↓E3, Nat.reduceAdd]
      refine c_send hPx hce2 hkvz ⟨hklz, hkrz⟩ hM4 hu4 (by omega) (by omega) (toM h5) fun hp9 w9 hM9 h9 => ?_
      rw [← hmsg] at hM9
      try simp only [↓E3]
      exact hR hp9 w9 hM9 (toB h9).tail
  intro hk8
  have n8 := ne 8 hk8
  simp only [n8, cond_false] at hR
  try simp only [↓E1, ↓E2, ↓E3, Nat.reduceAdd]
  rw [cnd_dec]
  constructor
  · intro hk10
    have : k = 10 := by omega
    subst this
    cases hok with
    | leaf h => omega
    | blk hnn hks =>
    have hun : UnitM (.mk 10 [] p nn ns ks) := c_unitM (k := 10) (p := p) (nn := nn) (t := []) (ns := ns) (ks := ks) fun x hx => stmtM_of (hks x hx) (ih x hx)
    try simp only [↓E1, ↓E2, ↓E3, Nat.reduceAdd]
    obtain ⟨vU, cU, hU, hI, vL, hL, vN, hN, vS, hSe, vX, hur, hgU, hgL, hgN, hgS, hX, hpe⟩ := id hM
    obtain ⟨ua, uc, rfl⟩ := hgU.slice
    have hbm : (b, mkO sel (.slice ua m.units.length uc) vL vN vS vX) ∈ (b5, box c) :: (hp ++ H) := by rw [hpe]; simp
    rw [h1.ldH (b := b) (c := [str sel, .slice ua m.units.length uc, vL, vN, vS, vX]) (t := Ty.code_maker) (fr := (0, 0)) hbm 1 _ (by simp)]
    try simp only [↓E1, ↓E2, ↓E3, Nat.reduceAdd]
    have hle := le_add m u ⟨10, m.units.length, 0⟩
    refine add 10 m.units.length 0 m [(b5, _)] hp _ _ hM hu (by omega) h1 fun hp2 w2 hM2 h2 => ?_
    have h2 : Sat g w2 ((b5, box c) :: (hp2 ++ H)) := h2
    refine h2.ldn0 (c := c) hclen.symm ?_
    try simp only [↓E1, ↓E2, ↓E3, Nat.reduceAdd]
    refine hun hn0 hM2 hnu (by simp only [msr]; have := hle.tot; omega) (toM h2) fun hp3 w3 hM3 h3 => ?_
    try simp only [↓E3]
    refine hR hp3 w3 ?_ (toB h3).tail
    exact hM3
  intro hk10
  have n10 := ne 10 hk10
  simp only [n10, cond_false] at hR
  try simp only [↓E3]
  exact hR hp _ hM h1.tail
end Go.Vx
namespace Go.Vx

/-- Who gives up tells why. -/
def Bd {α : Type} (r : Res α) : Prop := ∀ p e, r = .bad p e → e ≠ 0
theorem bd_out {α : Type} : Bd (.out : Res α) := fun _ _ h => by simp at h
theorem bd_ok {α : Type} (a : α) (l : List Tok) : Bd (.ok a l) := fun _ _ h => by simp at h
theorem bd_syn {α : Type} (l : List Tok) : Bd (syn l : Res α) := fun _ _ h => by
  simp only [syn] at h
  injection h with _ h
  omega
theorem bd_cond {α : Type} {c : Bool} {x y : Res α} (h1 : Bd x) (h2 : Bd y) : Bd (bif c then x else y) := by cases c <;> assumption
theorem bd_then {α β : Type} {r : Res α} {k : α → List Tok → Res β} (h1 : Bd r) (h2 : ∀ a l, Bd (k a l)) : Bd (r.andThen k) := by
  cases r with
  | out => exact bd_out
  | bad p e =>
    intro q e' h
    simp only [Res.andThen] at h
    injection h with _ h
    rw [← h]
    exact h1 p e rfl
  | ok a l => exact h2 a l
theorem bd_need {k : Nat} {l : List Tok} : Bd (needS k l) := bd_cond (bd_ok _ _) (bd_syn _)
theorem bd_three {α : Type} (p : Nat) : Bd (.bad p 3 : Res α) := fun _ _ h => by
  injection h with _ h
  omega
theorem bd_within {α : Type} {d : Nat} {l : List Tok} {k : Nat → List Tok → Res α} (h : ∀ d l, Bd (k d l)) : Bd (within d l k) := by
  unfold within
  exact bd_cond (bd_three _) (h _ _)
theorem bd_leaf {k : Nat} {l : List Tok} : Bd (leaf k l) := bd_ok _ _

structure BadP (f : Nat) : Prop where
  expr : ∀ d l, Bd (expr f d l)
  casc : ∀ d l, Bd (casc f d l)
  cascL : ∀ d p ks l, Bd (cascL f d p ks l)
  msg : ∀ d l, Bd (msg f d l)
  msgL : ∀ d p t ks l, Bd (msgL f d p t ks l)
  chainL : ∀ d k o n p l, Bd (chainL f d k o n p l)
  keyed : ∀ d l, Bd (keyed f d l)
  binary : ∀ d l, Bd (binary f d l)
  unary : ∀ d l, Bd (unary f d l)
  prim : ∀ d l, Bd (prim f d l)
  lst : ∀ d l, Bd (lst f d l)
  lstL : ∀ d p ks l, Bd (lstL f d p ks l)
  elem : ∀ d l, Bd (elem f d l)
  blk : ∀ d l, Bd (blk f d l)
  blkN : ∀ d p ns l, Bd (blkN f d p ns l)
  body : ∀ d k n l, Bd (body f d k n l)
  bodyN : ∀ d k n l, Bd (bodyN f d k n l)
  bodyL : ∀ d k n l, Bd (bodyL f d k n l)
  stmt : ∀ d l, Bd (stmt f d l)

theorem badP : ∀ f, BadP f := by
  intro f
  induction f with
  | zero => constructor <;> intros <;> simp only [expr, casc, cascL, msg, msgL, chainL, keyed, binary, unary, prim, lst, lstL, elem, blk, blkN, body, bodyN, bodyL, stmt] <;> exact bd_out
  | succ f ih =>
    constructor <;> intros <;> simp only [expr, casc, cascL, msg, msgL, chainL, keyed, binary, unary, prim, lst, lstL, elem, blk, blkN, body, bodyN, bodyL, stmt]
    all_goals
      repeat' first
        | exact bd_ok _ _
        | exact bd_syn _
        | exact bd_need
        | exact bd_three _
        | exact bd_leaf
        | exact ih.expr _ _
        | exact ih.casc _ _
        | exact ih.cascL _ _ _ _
        | exact ih.msg _ _
        | exact ih.msgL _ _ _ _ _
        | exact ih.chainL _ _ _ _ _ _
        | exact ih.keyed _ _
        | exact ih.binary _ _
        | exact ih.unary _ _
        | exact ih.prim _ _
        | exact ih.lst _ _
        | exact ih.lstL _ _ _ _
        | exact ih.elem _ _
        | exact ih.blk _ _
        | exact ih.blkN _ _ _ _
        | exact ih.body _ _ _ _
        | exact ih.bodyN _ _ _ _
        | exact ih.bodyL _ _ _ _
        | exact ih.stmt _ _
        | refine bd_cond ?_ ?_
        | refine bd_then ?_ fun _ _ => ?_
        | refine bd_within fun _ _ => ?_

theorem bd_patL : ∀ f t ns l, Bd (patL f t ns l) := by
  intro f
  induction f with
  | zero => intros; exact bd_out
  | succ f ih =>
    intros
    simp only [patL]
    exact bd_cond (bd_then bd_need fun _ _ => ih _ _ _) (bd_ok _ _)
theorem bd_pat (l : List Tok) : Bd (patS l) := by
  unfold patS
  simp only []
  exact bd_cond (bd_ok _ _) (bd_cond (bd_then bd_need fun _ _ => bd_ok _ _) (bd_cond (bd_then bd_need fun _ _ => bd_then (bd_patL _ _ _ _) fun _ _ => bd_ok _ _) (bd_syn _)))

/-- A source that is refused: why. -/
theorem unit_err {s : List UInt8} {head : List Tok → Res Node} (hh : ∀ l, Bd (head l)) (hno : ∀ l, readS s = .ok l → (head l).andThen (fun n l1 => body (fuelOf l) 0 0 n l1) ≠ .out) {p e : Nat} (h : unitS s head = .error (p, e)) : e ≠ 0 := by
  unfold unitS at h
  cases hr : readS s with
  | error x =>
    rw [hr] at h
    simp only [] at h
    injection h with h
    subst h
    unfold readS at hr
    rcases cond_or hr with ⟨_, h⟩ | ⟨_, h⟩
    · injection h with h
      injection h with _ h
      omega
    · cases hr' : readGo (s.length + 1) s 0 [] with
      | ok x => rw [hr'] at h; simp at h
      | error x =>
        rw [hr'] at h
        injection h with h
        injection h with _ h
        omega
  | ok l =>
    rw [hr] at h
    simp only [] at h
    have hn := hno l hr
    have hb : Bd ((head l).andThen fun n l1 => body (fuelOf l) 0 0 n l1) := bd_then (hh l) fun n l1 => (badP _).body _ _ _ _
    generalize (head l).andThen (fun n l1 => body (fuelOf l) 0 0 n l1) = r at h hn hb
    cases r with
    | out => exact absurd rfl hn
    | ok n l => simp at h
    | bad p' e' =>
      simp only [] at h
      injection h with h
      injection h with _ h
      rw [← h]
      exact hb _ _ rfl
theorem parse_err {s : List UInt8} {p e : Nat} (h : parseS s = .error (p, e)) : e ≠ 0 :=
  unit_err (fun l => bd_ok _ _) (fun l _ => by
    show body (fuelOf l) 0 0 (.mk 12 [] 0 0 [] []) l ≠ .out
    exact (nout (fuelOf l)).body (by unfold fuelOf; omega)) h
end Go.Vx
namespace Go.Vx
open Go Go.Proofs
variable {R : Ending → World → Prop} {g : G} {w : World} {H hp T : Hp}

/-- Units that stay: their cells. -/
inductive UI (g : G) : List CU → List Value → Prop
  | nil : UI g [] []
  | cons {u : CU} {us : List CU} {v : Value} {cs : List Value} (hi : Sl g 3 v u.ins.length (insZ u.ins)) (hr : UI g us cs) : UI g (u :: us) (i64 (u.args : Int) :: i64 (u.names : Int) :: v :: cs)
theorem UI.mono {g g' : G} (hg : g.le g') {us : List CU} {cs : List Value} (h : UI g us cs) : UI g' us cs := by
  induction h with
  | nil => exact .nil
  | cons hi _ ih => exact .cons (hi.mono hg) ih
theorem UR.freeze {us : List CU} {cs : List Value} (h : UR us cs hp) : ∀ {g : G} {w : World} {H : Hp}, Sat g w (hp ++ H) → ∃ g', g.le g' ∧ Sat g' w H ∧ UI g' us cs := by
  induction h with
  | nil => intro g w H hS; exact ⟨g, .refl g, hS, .nil⟩
  | @cons u us v cs hp1 hp2 hg hr ih =>
    intro g w H hS
    rw [List.append_assoc] at hS
    obtain ⟨g1, h1, h2, h3⟩ := hg.freeze hS
    obtain ⟨g2, h4, h5, h6⟩ := ih h2
    exact ⟨g2, h1.trans h4, h5, .cons (h3.mono h4) h6⟩

/-- Steps as the program has them. -/
def CodeR (g : G) (cv : List Value) (sel : List UInt8) (m : MK) : Prop :=
  ∃ vU cU vL vN vS, cv = [str sel, vU, vL, vN, vS] ∧ UI g m.units cU ∧ Sl g 3 vU m.units.length cU ∧ SS g vL m.lits ∧ SS g vN m.names ∧ SS g vS m.sels
theorem CodeR.mono {g g' : G} (hg : g.le g') {cv : List Value} {sel : List UInt8} {m : MK} (h : CodeR g cv sel m) : CodeR g' cv sel m := by
  obtain ⟨vU, cU, vL, vN, vS, h1, h2, h3, h4, h5, h6⟩ := h
  exact ⟨vU, cU, vL, vN, vS, h1, h2.mono hg, h3.mono hg, h4.mono hg, h5.mono hg, h6.mono hg⟩
def cZ : List Value := [str [], .slice none 0 0, .slice none 0 0, .slice none 0 0, .slice none 0 0]
theorem CodeR.zero (g : G) : CodeR g cZ [] ⟨[], [], [], [], []⟩ := ⟨_, [], _, _, _, rfl, .nil, Sl.nil g 3, Sl.nil g 1, Sl.nil g 1, Sl.nil g 1⟩
theorem CodeR.len {cv : List Value} {sel : List UInt8} {m : MK} (h : CodeR g cv sel m) : cv.length = 5 ∧ allOne cv = true := by
  obtain ⟨vU, cU, vL, vN, vS, rfl, _, h3, h4, h5, h6⟩ := h
  refine ⟨rfl, ?_⟩
  simp only [allOne, h3.one, h4.one, h5.one, h6.one]
  rfl

theorem MR.freeze {sel : List UInt8} {b : Nat} {m : MK} (hM : MR g sel b m hp) (hS : Sat g w (hp ++ H)) : ∃ vU vL vN vS vX, (b, mkO sel vU vL vN vS vX) ∈ hp ++ H ∧ ∃ g', g.le g' ∧ Sat g' w H ∧ CodeR g' [str sel, vU, vL, vN, vS] sel m := by
  obtain ⟨vU, cU, hU, hI, vL, hL, vN, hN, vS, hSe, vX, hur, hgU, hgL, hgN, hgS, hX, rfl⟩ := hM
  refine ⟨vU, vL, vN, vS, vX, by simp, ?_⟩
  have h1 : Sat g w ((b, mkO sel vU vL vN vS vX) :: (hU ++ (hI ++ (hL ++ (hN ++ (hSe ++ H)))))) := by simpa using hS
  obtain ⟨g1, e1, h2, s1⟩ := hgU.freeze h1.tail
  obtain ⟨g2, e2, h3, s2⟩ := hur.freeze h2
  obtain ⟨g3, e3, h4, s3⟩ := hgL.freeze h3
  obtain ⟨g4, e4, h5, s4⟩ := hgN.freeze h4
  obtain ⟨g5, e5, h6, s5⟩ := hgS.freeze h5
  exact ⟨g5, e1.trans (e2.trans (e3.trans (e4.trans e5))), h6, vU, cU, vL, vN, vS, rfl, s2.mono (e3.trans (e4.trans e5)), s1.mono (e2.trans (e3.trans (e4.trans e5))), s3.mono (e4.trans e5), s4.mono e5, s5⟩

theorem c_Make {c : List Value} {n : Node} {sv : Value} {slots : List (List UInt8)} (hok : OkU n) (hn : NodeR g c n) (hsl : SS g sv slots) (hsn : slots.length ≤ 4611686018427387904) (hm : msr n ≤ 33554432) (hS : Sat g w H)
    (hgood : ∀ m g' cv w', makeS slots n = .ok m → g.le g' → CodeR g' cv n.text m → tot m ≤ 1073741824 → Sat g' w' H → R (.returned (.tuple #[.agg cv.toArray, i64 0, i64 0])) w')
    (hbad : ∀ p g' w', makeS slots n = .error p → g.le g' → Sat g' w' H → R (.returned (.tuple #[.agg cZ.toArray, i64 ((p : Nat) : Int), i64 21])) w') : Tr P F.code_Make [.agg c.toArray, sv] w R := by
  apply t_code_Make
  unfold d_code_Make
  have hlen := hn.len
  have e : (Value.agg c.toArray).cells.toList = c := by simp [Value.cells]
  rw [e]
  refine hS.al fun b2 w1 h1 => h1.al fun b4 w2 h2 => ?_
  have h2 : Sat g w2 ((b4, .cells cZ.toArray 25) :: (b2, box c) :: H) := h2
  refine h2.ldnH (b := b2) (c := c) (t := Ty.tree_Node) (fr := (0, 0)) (by simp) 6 0 (by omega) ?_
  rw [List.drop_zero, List.take_of_length_le (by omega)]
  try simp only [↓E1, ↓E2, ↓E3, Nat.reduceAdd]
  refine c_Resolve hn hsl hsn (by omega) h2 (fun l g3 lv w3 hr hg3 hlv hll h3 => ?_) (fun p g3 w3 hr hg3 h3 => ?_)
  · try simp only [↓E1, ↓E2, ↓E3, Nat.reduceAdd]
    have hmk : makeS slots n = .ok (unitC n ⟨[], [], [], [], l⟩) := by unfold makeS; rw [hr]
    try simp only [decide_true, Bool.not_true, ↓E1, ↓E2, ↓E3, Nat.reduceAdd]
    have hc1 : c.getD 1 undef = str n.text := by cases hn; rfl
    rw [h3.ld1 1 _ (by omega), hc1]
    refine bdI (cs := [str n.text, .slice none 0 0, .slice none 0 0, .slice none 0 0, .slice none 0 0]) rfl ?_
    obtain ⟨la, lc, rfl, _, _, _⟩ := id hlv
    refine bdI (cs := [str n.text, .slice none 0 0, .slice none 0 0, .slice none 0 0, .slice none 0 0, .slice la l.length lc]) rfl ?_
    refine h3.al fun b28 w4 h4 => ?_
    have h4 : Sat g3 w4 ([(b28, mkO n.text (.slice none 0 0) (.slice none 0 0) (.slice none 0 0) (.slice none 0 0) (.slice la l.length lc))] ++ ((b4, .cells cZ.toArray 25) :: (b2, box c) :: H)) := h4
    have hM : MR g3 n.text b28 ⟨[], [], [], [], l⟩ [(b28, mkO n.text (.slice none 0 0) (.slice none 0 0) (.slice none 0 0) (.slice none 0 0) (.slice la l.length lc))] :=
      ⟨_, [], [], [], _, [], _, [], _, [], _, .nil, .nil, .nil, .nil, .nil, hlv, rfl⟩
    refine h4.ldnH (b := b2) (c := c) (t := Ty.tree_Node) (fr := (0, 0)) (by simp) 6 0 (by omega) ?_
    rw [List.drop_zero, List.take_of_length_le (by omega)]
    try simp only [↓E1, ↓E2, ↓E3, Nat.reduceAdd]
    have hunit : UnitM n := by
      cases hok with
      | mk _ hks => exact c_unitM fun x hx => stmtM_of (hks x hx) (c_partM x)
    have hnu : nU n ≤ l.length := by
      cases hok with
      | mk _ hks =>
        have := resolve_len (fun x hx => (okV_of x).2.2.1 (hks x hx)) hr
        rw [this]
        simp only [nU]
        show 0 + _ ≤ _
        omega
    refine hunit (hn.mono hg3) hM hnu (by show 0 + _ ≤ _; omega) h4 fun hp5 w5 hM5 h5 => ?_
    have htot : tot (unitC n ⟨[], [], [], [], l⟩) ≤ 1073741824 := by
      cases hok with
      | @mk p nn t ns ks _ hks =>
        have := (le_unitOf (k := 12) (t := t) (n := nn) (names := ns.length) (kids := ks.length) (fun u m => le_stmts (ks := ks) (fun x _ => le_part x) u true m) ⟨[], [], [], [], l⟩).tot
        have e0 : tot ⟨[], [], [], [], l⟩ = 0 := rfl
        rw [e0] at this
        simp only [msr] at hm
        exact Nat.le_trans this (by omega)
    try simp only [↓E1, ↓E2, ↓E3, Nat.reduceAdd]
    obtain ⟨vU, vL, vN, vS, vX, hmem, g6, hg6, h6, hcode⟩ := hM5.freeze h5
    refine h5.ldnH (b := b28) (c := [str n.text, vU, vL, vN, vS, vX]) (t := Ty.code_maker) (fr := (0, 0)) hmem 5 0 (by simp) ?_
    have e5 : (([str n.text, vU, vL, vN, vS, vX] : List Value).drop 0).take 5 = [str n.text, vU, vL, vN, vS] := rfl
    rw [e5]
    refine st_all (c := [str n.text, vU, vL, vN, vS]) (c2 := cZ) h6 rfl rfl hcode.len.2 fun w7 h7 => ?_
    refine h7.ldn0 (c := [str n.text, vU, vL, vN, vS]) rfl ?_
    exact hgood _ g6 _ w7 hmk (hg3.trans hg6) hcode htot h7.tail.tail
  · try simp only [↓E1, ↓E2, ↓E3, Nat.reduceAdd]
    have hmk : makeS slots n = .error p := by unfold makeS; rw [hr]
    rw [show decide ((21 : Int) = 0) = false from rfl]
    try simp only [↓E1, ↓E2, ↓E3, Bool.not_false, Nat.reduceAdd]
    refine bdI (cs := cZ) rfl ?_
    refine st_all (c := cZ) (c2 := cZ) h3 rfl rfl rfl fun w4 h4 => ?_
    refine h4.ldn0 (c := cZ) rfl ?_
    exact hbad p g3 w4 hmk hg3 h4.tail.tail

theorem parse_shape {s : List UInt8} {n : Node} (h : parseS s = .ok n) : OkU n ∧ msr n ≤ 33554432 := by
  unfold parseS unitS at h
  cases hr : readS s with
  | error x => rw [hr] at h; simp at h
  | ok l =>
    rw [hr] at h
    have hw := readS_wf hr
    have htm := tm_le (b := 4096) hw.text
    have hll := hw.len
    simp only [] at h
    cases hb : (Res.andThen (.ok (.mk 12 [] 0 0 [] []) l) fun n l1 => body (fuelOf l) 0 0 n l1) with
    | out => rw [hb] at h; simp at h
    | bad p e => rw [hb] at h; simp at h
    | ok n' l' =>
      rw [hb] at h
      injection h with h
      subst h
      have hb : body (fuelOf l) 0 0 (.mk 12 [] 0 0 [] []) l = .ok n' l' := hb
      obtain ⟨ns', ks', h1, h2, h3⟩ := (shape (fuelOf l)).body hb (by simp)
      have : tm l ≤ 16785409 := Nat.le_trans htm (Nat.mul_le_mul_right _ hll)
      simp only [msr, nsM, msrs, List.length_nil] at h3
      refine ⟨?_, by omega⟩
      rw [h1]
      exact .mk (by simp) h2

theorem c_Compile {s : List UInt8} {sv : Value} {slots : List (List UInt8)} (hs : s.length ≤ 9223372036854775807) (hsl : SS g sv slots) (hsn : slots.length ≤ 4611686018427387904) (hS : Sat g w H)
    (hgood : ∀ sel m g' cv w', compileS slots s = .ok (sel, m) → g.le g' → CodeR g' cv sel m → tot m ≤ 1073741824 → Sat g' w' H → R (.returned (.tuple #[.agg cv.toArray, i64 0, i64 0])) w')
    (hbad : ∀ (p e : Nat) g' w', compileS slots s = .error (p, e) → g.le g' → Sat g' w' H → R (.returned (.tuple #[.agg cZ.toArray, i64 (p : Int), i64 (e : Int)])) w') : Tr P F.code_Compile [str s, sv] w R := by
  apply t_code_Compile
  unfold d_code_Compile
  refine hS.al fun b4 w1 h1 => ?_
  have h1 : Sat g w1 ((b4, .cells cZ.toArray 25) :: H) := h1
  try simp only [↓E2]
  refine c_Parse whole_ok hs h1 (fun n g2 c w2 hp hg2 hc h2 => ?_) (fun q e g2 w2 hp hg2 h2 => ?_)
  · try simp only [↓E1, ↓E2, ↓E3, Nat.reduceAdd]
    obtain ⟨hou, hms⟩ := parse_shape hp
    refine h2.al fun b7 w3 h3 => ?_
    refine st_box (c2 := zN) h3 hc.len rfl hc.one fun w4 h4 => ?_
    try simp only [decide_true, Bool.not_true, ↓E1, ↓E2, ↓E3, Nat.reduceAdd]
    refine h4.ldn0 (c := c) hc.len.symm ?_
    try simp only [↓E1, ↓E2, ↓E3, Nat.reduceAdd]
    refine c_Make hou hc (hsl.mono hg2) hsn hms h4.tail (fun m g5 cv w5 hmk hg5 hcv htot h5 => ?_) (fun p g5 w5 hmk hg5 h5 => ?_)
    · try simp only [↓E1, ↓E2, ↓E3, Nat.reduceAdd]
      refine st_all (c := cv) (c2 := cZ) h5 hcv.len.1 rfl hcv.len.2 fun w6 h6 => ?_
      refine h6.ldn0 (c := cv) hcv.len.1.symm ?_
      exact hgood n.text m g5 cv w6 (by unfold compileS codeS; rw [hp]; simp only [hmk]) (hg2.trans hg5) hcv htot h6.tail
    · try simp only [↓E1, ↓E2, ↓E3, Nat.reduceAdd]
      refine st_all (c := cZ) (c2 := cZ) h5 rfl rfl rfl fun w6 h6 => ?_
      refine h6.ldn0 (c := cZ) rfl ?_
      exact hbad p 21 g5 w6 (by unfold compileS codeS; rw [hp]; simp only [hmk]) (hg2.trans hg5) h6.tail
  · try simp only [↓E1, ↓E2, ↓E3, Nat.reduceAdd]
    have he : e ≠ 0 := parse_err hp
    refine h2.al fun b7 w3 h3 => ?_
    refine st_box (c := zN) (c2 := zN) h3 rfl rfl rfl fun w4 h4 => ?_
    have : decide ((e : Int) = 0) = false := by rw [decide_eq_false_iff_not]; omega
    rw [this]
    try simp only [↓E1, ↓E2, ↓E3, Bool.not_false, Nat.reduceAdd]
    refine bdI (cs := cZ) rfl ?_
    refine st_all (c := cZ) (c2 := cZ) h4.tail rfl rfl rfl fun w5 h5 => ?_
    refine h5.ldn0 (c := cZ) rfl ?_
    exact hbad q e g2 w5 (by unfold compileS codeS; rw [hp]) hg2 h5.tail
end Go.Vx
namespace Go.Vx

/-- Some step is such a one. -/
def hasI (us : List CU) (p : Ins → Bool) : Prop := ∃ x ∈ us, ∃ i ∈ x.ins, p i = true
theorem hasI_mod {us : List CU} {p : Ins → Bool} {u : Nat} {i : Ins} (h : hasI us p) : hasI (modU us u i) p := by
  induction us generalizing u with
  | nil => exact h
  | cons y us ih =>
    obtain ⟨x, hx, j, hj, hp⟩ := h
    rcases List.mem_cons.1 hx with rfl | hx
    · cases u with
      | zero => exact ⟨⟨x.args, x.names, x.ins ++ [i]⟩, by simp [modU], j, by simp [hj], hp⟩
      | succ u => exact ⟨x, by simp [modU], j, hj, hp⟩
    · cases u with
      | zero => exact ⟨x, by simp [modU, hx], j, hj, hp⟩
      | succ u =>
        obtain ⟨x', h1, j', h2, h3⟩ := ih (u := u) ⟨x, hx, j, hj, hp⟩
        exact ⟨x', by simp [modU, h1], j', h2, h3⟩
theorem hasI_new {us : List CU} {p : Ins → Bool} {u : Nat} {i : Ins} (hu : u < us.length) (hp : p i = true) : hasI (modU us u i) p := by
  induction us generalizing u with
  | nil => simp at hu
  | cons y us ih =>
    cases u with
    | zero => exact ⟨⟨y.args, y.names, y.ins ++ [i]⟩, by simp [modU], i, by simp, hp⟩
    | succ u =>
      obtain ⟨x', h1, j', h2, h3⟩ := ih (u := u) (by simpa using hu)
      exact ⟨x', by simp [modU, h1], j', h2, h3⟩
theorem hasI_app {us us' : List CU} {p : Ins → Bool} (h : hasI us p) : hasI (us ++ us') p := by
  obtain ⟨x, hx, r⟩ := h
  exact ⟨x, by simp [hx], r⟩

/-- How many blocks. -/
def nBi : List Ins → Nat
  | [] => 0
  | i :: l => (bif Nat.beq i.op 10 then 1 else 0) + nBi l
def nB : List CU → Nat
  | [] => 0
  | x :: l => nBi x.ins + nB l
theorem nBi_app (a b : List Ins) : nBi (a ++ b) = nBi a + nBi b := by
  induction a with
  | nil => simp [nBi]
  | cons x a ih => simp only [List.cons_append, nBi, ih]; omega
theorem nB_app (a b : List CU) : nB (a ++ b) = nB a + nB b := by
  induction a with
  | nil => simp [nB]
  | cons x a ih => simp only [List.cons_append, nB, ih]; omega
theorem nB_mod {us : List CU} {u : Nat} {i : Ins} (hu : u < us.length) : nB (modU us u i) = nB us + (bif Nat.beq i.op 10 then 1 else 0) := by
  induction us generalizing u with
  | nil => simp at hu
  | cons y us ih =>
    cases u with
    | zero => simp only [modU, nB, nBi_app, nBi]; omega
    | succ u =>
      have := ih (u := u) (by simpa using hu)
      simp only [modU, nB, this]; omega

/-- All that is asked of lists and steps. -/
structure InvO (m : MK) : Prop where
  lits : m.lits.Nodup
  names : m.names.Nodup
  sels : m.sels.Nodup
  ul : ∀ a, a < m.lits.length → hasI m.units (fun i => Nat.beq i.a a && Nat.beq i.op 0)
  un : ∀ a, a < m.names.length → hasI m.units (fun i => Nat.beq i.a a && Nat.beq i.op 5)
  us : ∀ a, a < m.sels.length → hasI m.units (fun i => Nat.beq i.a a && (Nat.beq i.op 8 || Nat.beq i.op 9))

theorem idxT_none {t : List UInt8} {l : List (List UInt8)} {i : Nat} (h : idxT t l i = none) : t ∉ l := by
  induction l generalizing i with
  | nil => simp
  | cons x l ih =>
    simp only [idxT] at h
    cases hb : x == t with
    | true => rw [hb] at h; simp at h
    | false =>
      rw [hb] at h
      have hx : x ≠ t := by simpa using hb
      simp [ih h, Ne.symm hx]
theorem idxT_some {t : List UInt8} {l : List (List UInt8)} {i k : Nat} (h : idxT t l i = some k) : k < i + l.length := by
  induction l generalizing i with
  | nil => simp [idxT] at h
  | cons x l ih =>
    simp only [idxT] at h
    cases hb : x == t with
    | true =>
      rw [hb] at h
      simp at h
      subst h
      simp
    | false =>
      rw [hb] at h
      have := ih h
      simp only [List.length_cons]
      omega
theorem once_law {l : List (List UInt8)} {t : List UInt8} (h : l.Nodup) : (onceS l t).1.Nodup ∧ (onceS l t).2 < (onceS l t).1.length ∧ ∀ a, a < (onceS l t).1.length → a < l.length ∨ a = (onceS l t).2 := by
  unfold onceS
  cases hix : idxT t l 0 with
  | some k =>
    have := idxT_some hix
    exact ⟨h, by simpa using this, fun a ha => .inl ha⟩
  | none =>
    have := idxT_none hix
    refine ⟨?_, by simp, fun a ha => ?_⟩
    · rw [List.nodup_append]
      refine ⟨h, by simp, fun x hx y hy => ?_⟩
      rw [List.mem_singleton.1 hy]
      exact fun e => this (e ▸ hx)
    · simp only [List.length_append, List.length_cons, List.length_nil] at ha
      simp only []
      omega

/-- One maker behind another one. -/
structure Gd (m r : MK) : Prop where
  units : m.units.length ≤ r.units.length
  inv : InvO m → InvO r
  blocks : r.units.length + nB m.units = m.units.length + nB r.units
theorem Gd.refl (m : MK) : Gd m m := ⟨Nat.le_refl _, fun h => h, rfl⟩
theorem Gd.trans {m r q : MK} (h : Gd m r) (h' : Gd r q) : Gd m q := ⟨Nat.le_trans h.units h'.units, fun x => h'.inv (h.inv x), by have := h.blocks; have := h'.blocks; omega⟩

theorem inv_add {m : MK} {u : Nat} {i : Ins} (h : InvO m) : InvO (addI m u i) := ⟨h.lits, h.names, h.sels, fun a ha => hasI_mod (h.ul a ha), fun a ha => hasI_mod (h.un a ha), fun a ha => hasI_mod (h.us a ha)⟩
theorem gd_add {m : MK} {u : Nat} (op a b : Nat) (hu : u < m.units.length) (ho : Nat.beq op 10 = false) : Gd m (addI m u ⟨op, a, b⟩) := by
  refine ⟨?_, inv_add, ?_⟩
  · show m.units.length ≤ (modU m.units u _).length
    rw [modU_len]; exact Nat.le_refl _
  · show (modU m.units u _).length + nB m.units = m.units.length + nB (modU m.units u _)
    rw [modU_len, nB_mod hu]
    simp only [ho, cond_false]
    omega
theorem gd_pop (m : MK) : Gd m (popU m) := ⟨Nat.le_refl _, fun h => ⟨h.lits, h.names, h.sels, h.ul, h.un, h.us⟩, rfl⟩
theorem blocks_add {m m2 : MK} {u : Nat} {i : Ins} (hm : m2.units = m.units) (hu : u < m.units.length) (ho : Nat.beq i.op 10 = false) : (addI m2 u i).units.length + nB m.units = m.units.length + nB (addI m2 u i).units := by
  show (modU m2.units u i).length + nB m.units = m.units.length + nB (modU m2.units u i)
  rw [hm, modU_len, nB_mod hu, ho]
  simp only [cond_false]
  omega
theorem units_add {m m2 : MK} {u : Nat} {i : Ins} (hm : m2.units = m.units) : m.units.length ≤ (addI m2 u i).units.length := by
  show m.units.length ≤ (modU m2.units u i).length
  rw [modU_len, hm]
  exact Nat.le_refl _
theorem gd_lit {m : MK} {u : Nat} (t : List UInt8) (hu : u < m.units.length) : Gd m (addI { m with lits := (onceS m.lits t).1 } u ⟨0, (onceS m.lits t).2, 0⟩) := by
  refine ⟨units_add rfl, fun h => ?_, blocks_add (m2 := { m with lits := (onceS m.lits t).1 }) rfl hu rfl⟩
  obtain ⟨h1, h2, h3⟩ := once_law (t := t) h.lits
  refine ⟨h1, h.names, h.sels, fun a ha => ?_, fun a ha => hasI_mod (h.un a ha), fun a ha => hasI_mod (h.us a ha)⟩
  rcases h3 a ha with h4 | h4
  · exact hasI_mod (h.ul a h4)
  · refine hasI_new hu ?_
    rw [h4]
    simp
theorem gd_nam {m : MK} {u : Nat} (t : List UInt8) (hu : u < m.units.length) : Gd m (addI { m with names := (onceS m.names t).1 } u ⟨5, (onceS m.names t).2, 0⟩) := by
  refine ⟨units_add rfl, fun h => ?_, blocks_add (m2 := { m with names := (onceS m.names t).1 }) rfl hu rfl⟩
  obtain ⟨h1, h2, h3⟩ := once_law (t := t) h.names
  refine ⟨h.lits, h1, h.sels, fun a ha => hasI_mod (h.ul a ha), fun a ha => ?_, fun a ha => hasI_mod (h.us a ha)⟩
  rcases h3 a ha with h4 | h4
  · exact hasI_mod (h.un a h4)
  · refine hasI_new hu ?_
    rw [h4]
    simp
theorem gd_send {m : MK} {u : Nat} (sup : Bool) (t : List UInt8) (n : Nat) (hu : u < m.units.length) : Gd m (sendC u sup t n m) := by
  refine ⟨units_add rfl, fun h => ?_, blocks_add (m2 := { m with sels := (onceS m.sels t).1 }) rfl hu (by cases sup <;> rfl)⟩
  obtain ⟨h1, h2, h3⟩ := once_law (t := t) h.sels
  refine ⟨h.lits, h.names, h1, fun a ha => hasI_mod (h.ul a ha), fun a ha => hasI_mod (h.un a ha), fun a ha => ?_⟩
  rcases h3 a ha with h4 | h4
  · exact hasI_mod (h.us a h4)
  · refine hasI_new hu ?_
    rw [h4]
    cases sup <;> simp
theorem gd_name {m : MK} {u : Nat} (hu : u < m.units.length) : Gd m (nameC u m) := by
  unfold nameC
  simp only []
  have h0 := gd_pop m
  have hu' : u < (popU m).units.length := hu
  cases (useH m).kind == 2
  · cases (useH m).kind == 3
    · cases (useH m).kind == 4
      · cases (useH m).kind == 5
        · exact h0.trans (gd_add _ _ _ hu' rfl)
        · exact h0.trans (gd_nam _ hu')
      · exact h0.trans (gd_add _ _ _ hu' rfl)
    · exact h0.trans (gd_add _ _ _ hu' rfl)
  · exact h0.trans (gd_add _ _ _ hu' rfl)

def GdP (n : Node) : Prop := ∀ u m, u < m.units.length → Gd m (partC n u m)
def GdQ (n : Node) : Prop := GdP n ∧ (∀ u sup m, u < m.units.length → Gd m (msgC n u sup m)) ∧ (∀ u m, u < m.units.length → Gd m (retC n u m))

theorem gd_parts {ks : List Node} (ih : ∀ x ∈ ks, GdP x) : ∀ u m, u < m.units.length → Gd m (partsC ks u m) := by
  induction ks with
  | nil => intro u m _; exact Gd.refl m
  | cons k ks ihk =>
    intro u m hu
    simp only [partsC]
    have h := ih k (by simp) u m hu
    exact h.trans (ihk (fun x hx => ih x (by simp [hx])) u _ (Nat.lt_of_lt_of_le hu h.units))
theorem gd_head {ks : List Node} (ih : ∀ x ∈ ks, GdP x) (u : Nat) (m : MK) (hu : u < m.units.length) : Gd m (headC ks u m) := by
  cases ks with
  | nil => exact Gd.refl m
  | cons k ks =>
    simp only [headC]
    exact ih k (by simp) u m hu
theorem gd_casc {ks : List Node} (ih : ∀ x ∈ ks, GdQ x) : ∀ u sup m, u < m.units.length → Gd m (cascC ks u sup m) := by
  induction ks with
  | nil => intro u sup m _; exact Gd.refl m
  | cons k ks ihk =>
    intro u sup m hu
    simp only [cascC]
    cases ks.isEmpty
    · simp only [cond_false]
      have h1 := gd_add 11 0 0 hu rfl
      have h2 := (ih k (by simp)).2.1 u sup _ (Nat.lt_of_lt_of_le hu h1.units)
      have h12 := h1.trans h2
      have h3 := gd_add 12 0 0 (Nat.lt_of_lt_of_le hu h12.units) rfl
      have h13 := h12.trans h3
      exact h13.trans (ihk (fun x hx => ih x (by simp [hx])) u sup _ (Nat.lt_of_lt_of_le hu h13.units))
    · exact (ih k (by simp)).2.1 u sup m hu
theorem gd_stmts {ks : List Node} (ih : ∀ x ∈ ks, GdQ x) : ∀ u first m, u < m.units.length → Gd m (stmtsC ks u first m).1 := by
  induction ks with
  | nil => intro u first m _; exact Gd.refl m
  | cons k ks ihk =>
    intro u first m hu
    have h0 : Gd m (bif first then m else addI m u ⟨12, 0, 0⟩) := by
      cases first
      · exact gd_add 12 0 0 hu rfl
      · exact Gd.refl m
    simp only [stmtsC]
    generalize (bif first then m else addI m u ⟨12, 0, 0⟩) = m1 at h0
    have hu1 := Nat.lt_of_lt_of_le hu h0.units
    cases Nat.beq k.kind 11
    · simp only [cond_false]
      have h1 := h0.trans ((ih k (by simp)).1 u m1 hu1)
      exact h1.trans (ihk (fun x hx => ih x (by simp [hx])) u false _ (Nat.lt_of_lt_of_le hu h1.units))
    · simp only [cond_true]
      have h1 := h0.trans ((ih k (by simp)).2.2 u m1 hu1)
      exact h1.trans (gd_add 14 0 0 (Nat.lt_of_lt_of_le hu h1.units) rfl)

/-- A unit more, and as many blocks. -/
structure Gu (m r : MK) : Prop where
  units : m.units.length + 1 ≤ r.units.length
  inv : InvO m → InvO r
  blocks : r.units.length + nB m.units = m.units.length + nB r.units + 1

theorem gu_unitOf {k n names kids : Nat} {t : List UInt8} {st : Nat → MK → MK × Bool} (h : ∀ u m, u < m.units.length → Gd m (st u m).1) (m : MK) : Gu m (unitOf k t n names kids st m) := by
  unfold unitOf
  simp only []
  have hp : Gu m { m with units := m.units ++ [⟨n, names, []⟩] } := by
    refine ⟨by simp, fun hi => ⟨hi.lits, hi.names, hi.sels, fun a ha => hasI_app (hi.ul a ha), fun a ha => hasI_app (hi.un a ha), fun a ha => hasI_app (hi.us a ha)⟩, ?_⟩
    simp only [List.length_append, List.length_cons, List.length_nil, nB_app, nB, nBi]
    omega
  have hu : m.units.length < ({ m with units := m.units ++ [⟨n, names, []⟩] } : MK).units.length := by simp
  have h1 := h m.units.length { m with units := m.units ++ [⟨n, names, []⟩] } hu
  generalize ({ m with units := m.units ++ [⟨n, names, []⟩] } : MK) = m1 at hp hu h1
  have hu1 := Nat.lt_of_lt_of_le hu h1.units
  generalize st m.units.length m1 = r at h1 hu1
  have fin : ∀ q, Gd r.1 q → Gu m q := fun q hq => ⟨by have := hp.units; have := h1.units; have := hq.units; omega, fun x => hq.inv (h1.inv (hp.inv x)), by have := hp.blocks; have := h1.blocks; have := hq.blocks; omega⟩
  have hc : ∀ (q : Bool), Gd r.1 (bif q then r.1 else addI r.1 m.units.length ⟨12, 0, 0⟩) := by
    intro q
    cases q
    · exact gd_add 12 0 0 hu1 rfl
    · exact Gd.refl _
  have hc' : ∀ (q : Bool), Gd r.1 (bif q then addI r.1 m.units.length ⟨7, 0, 0⟩ else r.1) := by
    intro q
    cases q
    · exact Gd.refl _
    · exact gd_add 7 0 0 hu1 rfl
  cases r.2
  · simp only [cond_false]
    cases Nat.beq k 12 && !t.isEmpty
    · simp only [cond_false]
      have h2 := hc' (Nat.beq kids 0)
      exact fin _ (h2.trans (gd_add 13 0 0 (Nat.lt_of_lt_of_le hu1 h2.units) rfl))
    · simp only [cond_true]
      have h2 := hc (Nat.beq kids 0)
      have h3 := h2.trans (gd_add 6 0 0 (Nat.lt_of_lt_of_le hu1 h2.units) rfl)
      exact fin _ (h3.trans (gd_add 14 0 0 (Nat.lt_of_lt_of_le hu1 h3.units) rfl))
  · simp only [cond_true]
    exact fin _ (Gd.refl _)

theorem gd_part : ∀ n, GdQ n := by
  refine Node.ind fun k t p n ns ks ih => ?_
  have ihP : ∀ x ∈ ks, GdP x := fun x hx => (ih x hx).1
  refine ⟨fun u m hu => ?_, fun u sup m hu => ?_, fun u m hu => ?_⟩
  · simp only [partC]
    rcases hb : (Nat.beq k 1 || (Nat.beq k 2 || (Nat.beq k 3 || Nat.beq k 4))) with _ | _
    · simp only [cond_false]
      cases h5 : Nat.beq k 5
      · simp only [cond_false]
        cases h6 : Nat.beq k 6
        · simp only [cond_false]
          cases h7 : Nat.beq k 7
          · simp only [cond_false]
            cases h8 : Nat.beq k 8
            · simp only [cond_false]
              cases h10 : Nat.beq k 10
              · simp only [cond_false]
                exact Gd.refl m
              · simp only [cond_true]
                have hg : Gu (addI m u ⟨10, m.units.length, 0⟩) (unitOf k t n ns.length ks.length (fun u' m' => stmtsC ks u' true m') (addI m u ⟨10, m.units.length, 0⟩)) := gu_unitOf (fun u m hu => gd_stmts ih u true m hu) _
                generalize unitOf k t n ns.length ks.length (fun u' m' => stmtsC ks u' true m') (addI m u ⟨10, m.units.length, 0⟩) = q at hg ⊢
                have hl : (addI m u ⟨10, m.units.length, 0⟩).units.length = m.units.length := modU_len _ _ _
                have hnb : nB (addI m u ⟨10, m.units.length, 0⟩).units = nB m.units + 1 := nB_mod hu
                have g1 := hg.units
                have g2 := hg.blocks
                exact ⟨by omega, fun x => hg.inv (inv_add x), by omega⟩
            · simp only [cond_true]
              cases ks with
              | nil => exact Gd.refl m
              | cons r ms =>
                simp only [cascT]
                have h := ihP r (by simp) u m hu
                exact h.trans (gd_casc (fun x hx => ih x (by simp [hx])) u _ _ (Nat.lt_of_lt_of_le hu h.units))
          · simp only [cond_true]
            have h := gd_parts ihP u m hu
            exact h.trans (gd_send _ _ _ (Nat.lt_of_lt_of_le hu h.units))
        · simp only [cond_true]
          have h := (gd_pop m).trans (gd_head ihP u (popU m) hu)
          cases (useH m).kind == 3
          · exact h.trans (gd_add 4 _ _ (Nat.lt_of_lt_of_le hu h.units) rfl)
          · exact h.trans (gd_add 2 _ _ (Nat.lt_of_lt_of_le hu h.units) rfl)
      · simp only [cond_true]
        exact gd_name hu
    · simp only [cond_true]
      exact gd_lit _ hu
  · simp only [msgC]
    have h := gd_parts ihP u m hu
    exact h.trans (gd_send _ _ _ (Nat.lt_of_lt_of_le hu h.units))
  · simp only [retC]
    exact gd_head ihP u m hu

/-- What is claimed of the steps of a source. -/
theorem once_holds {slots : List (List UInt8)} {s : List UInt8} {sel : List UInt8} {m : MK} (h : compileS slots s = .ok (sel, m)) : InvO m ∧ m.units.length = nB m.units + 1 := by
  unfold compileS codeS at h
  cases hp : parseS s with
  | error x => rw [hp] at h; simp at h
  | ok n =>
    rw [hp] at h
    simp only [] at h
    cases hm : makeS slots n with
    | error p => rw [hm] at h; simp at h
    | ok m' =>
      rw [hm] at h
      injection h with h
      injection h with _ h
      subst h
      unfold makeS at hm
      cases hr : resolveS slots n with
      | error p => rw [hr] at hm; simp at hm
      | ok l =>
        rw [hr] at hm
        injection hm with hm
        subst hm
        obtain ⟨k, t, p, nn, ns, ks⟩ := n
        have hg := gu_unitOf (k := k) (t := t) (n := nn) (names := ns.length) (kids := ks.length) (fun u m hu => gd_stmts (ks := ks) (fun x _ => gd_part x) u true m hu) ⟨[], [], [], [], l⟩
        refine ⟨hg.inv ⟨by simp, by simp, by simp, by simp, by simp, by simp⟩, ?_⟩
        have := hg.blocks
        simp only [List.length_nil, nB] at this
        show (unitOf k t nn ns.length ks.length (fun u' m' => stmtsC ks u' true m') ⟨[], [], [], [], l⟩).units.length = nB (unitOf k t nn ns.length ks.length (fun u' m' => stmtsC ks u' true m') ⟨[], [], [], [], l⟩).units + 1
        have h2 : (unitOf k t nn ns.length ks.length (fun u' m' => stmtsC ks u' true m') ⟨[], [], [], [], l⟩).units.length + 0 = 0 + nB (unitOf k t nn ns.length ks.length (fun u' m' => stmtsC ks u' true m') ⟨[], [], [], [], l⟩).units + 1 := this
        omega

/-! ### Fixed sources -/
def src1 : List UInt8 := [51, 32, 102, 111, 111, 59, 32, 43, 32, 52]
def src2 : List UInt8 := [97, 32, 58, 61, 32, 51]
def mk1 : MK := ⟨[⟨0, 0, [⟨0, 0, 0⟩, ⟨11, 0, 0⟩, ⟨8, 0, 0⟩, ⟨12, 0, 0⟩, ⟨0, 1, 0⟩, ⟨8, 1, 1⟩, ⟨13, 0, 0⟩]⟩], [[51], [52]], [], [[102, 111, 111], [43]], []⟩
theorem known1 : compileS [] src1 = .ok ([], mk1) := by kernel_rfl
theorem known2 : compileS [] src2 = .error (0, 21) := by kernel_rfl
end Go.Vx
namespace Go.Vx
open Go Go.Proofs
variable {R : Ending → World → Prop} {g : G} {w : World} {H hp T : Hp}

theorem UI.len {us : List CU} {cs : List Value} (h : UI g us cs) : cs.length = us.length * 3 := by
  induction h with
  | nil => rfl
  | cons _ _ ih => simp only [List.length_cons, ih]; omega
theorem UI.snoc {us : List CU} {cs : List Value} (h : UI g us cs) {u : CU} {v : Value} (hv : Sl g 3 v u.ins.length (insZ u.ins)) : UI g (us ++ [u]) (cs ++ [i64 (u.args : Int), i64 (u.names : Int), v]) := by
  induction h with
  | nil => exact .cons hv .nil
  | cons hi _ ih => exact .cons hi ih
theorem UI.get {us : List CU} {cs : List Value} (h : UI g us cs) {i : Nat} {x : CU} (hx : us[i]? = some x) : ∃ v, Sl g 3 v x.ins.length (insZ x.ins) ∧ (cs.drop (i * 3)).take 3 = [i64 (x.args : Int), i64 (x.names : Int), v] := by
  induction h generalizing i with
  | nil => simp at hx
  | @cons u us v cs hi hr ih =>
    cases i with
    | zero => simp at hx; subst hx; exact ⟨v, hi, by simp⟩
    | succ i =>
      obtain ⟨v', h1, h2⟩ := ih (i := i) (by simpa using hx)
      refine ⟨v', h1, ?_⟩
      rw [← h2, Nat.succ_mul, Nat.add_comm, ← List.drop_drop]
      rfl
/-- A unit is found. -/
theorem UI.at {us : List CU} {cU : List Value} {vU : Value} (hI : UI g us cU) (hU : Sl g 3 vU us.length cU) {i : Nat} {x : CU} (hx : us[i]? = some x) (hS : Sat g w H) {K : Value → World → Prop}
    (hk : ∀ b o v, g.cell? b o = some (i64 (x.args : Int)) → g.cell? b (o + 1) = some (i64 (x.names : Int)) → g.cell? b (o + 2) = some v → Sl g 3 v x.ins.length (insZ x.ins) → K (ptr b o) w) : Vx.ia 3 vU (i64 ((i : Nat) : Int)) K w := by
  obtain ⟨v, hv, hc⟩ := hI.get hx
  refine Sl.at hU hS (List.getElem?_eq_some_iff.1 hx).1 (by decide) fun b o h => ?_
  rw [hc] at h
  exact hk b o v (h 0 _ rfl) (h 1 _ rfl) (h 2 _ rfl) hv
theorem insZ_get {l : List Ins} {j : Nat} {x : Ins} (hx : l[j]? = some x) : ((insZ l).drop (j * 3)).take 3 = insC x := by
  induction l generalizing j with
  | nil => simp at hx
  | cons y l ih =>
    cases j with
    | zero => simp at hx; subst hx; rfl
    | succ j =>
      rw [← ih (j := j) (by simpa using hx), Nat.succ_mul, Nat.add_comm, ← List.drop_drop]
      rfl
/-- A step is found. -/
theorem insAt {l : List Ins} {v : Value} (hv : Sl g 3 v l.length (insZ l)) {j : Nat} {x : Ins} (hx : l[j]? = some x) (hS : Sat g w H) {K : Value → World → Prop}
    (hk : ∀ b o, (∀ q y, (insC x)[q]? = some y → g.cell? b (o + q) = some y) → K (ptr b o) w) : Vx.ia 3 v (i64 ((j : Nat) : Int)) K w := by
  refine Sl.at hv hS (List.getElem?_eq_some_iff.1 hx).1 (by decide) fun b o h => ?_
  rw [insZ_get hx] at h
  exact hk b o h
theorem insZ_take {l : List Ins} {j : Nat} {x : Ins} (hx : l[j]? = some x) : insZ (l.take j) ++ insC x = insZ (l.take (j + 1)) := by
  rw [← insZ_snoc]
  congr 1
  rw [List.take_add_one, hx]
  rfl

/-- A list of texts is copied. -/
theorem ap_copy {vL : Value} {l : List (List UInt8)} (hL : SS g vL l) (hl : l.length ≤ 1073741824) (hS : Sat g w H) {K : Value → World → Prop}
    (hk : ∀ g' v' w', g.le g' → SS g' v' l → Sat g' w' H → K v' w') : Vx.ap 9 1 16 [.string ⟨#[]⟩] (.slice none 0 0) vL K w := by
  have h1 : allOne (l.map str) = true := by
    clear hL hl hk
    induction l with
    | nil => rfl
    | cons x l ih => simpa [allOne, str] using ⟨rfl, ih⟩
  refine Sat.ap (e := 9) (sz := 1) (n := 0) (hp := []) (cs := []) (m := l.length) (news := l.map str) hS .nil rfl (hS.srcI hL) (by simp) h1 (by omega) (by omega) fun v' hp' w' hg h => ?_
  rw [Nat.zero_add, List.nil_append] at hg
  obtain ⟨g', h1, h2, h3⟩ := hg.freeze h
  exact hk g' v' w' h1 h3 h2

theorem c_taken {cv : List Value} {sel : List UInt8} {m : MK} (hC : CodeR g cv sel m) (hm : tot m ≤ 1073741824) (hS : Sat g w H)
    (hR : ∀ g' cv' w', g.le g' → CodeR g' cv' sel m → Sat g' w' H → R (.returned (.agg cv'.toArray)) w') : Tr P F.law10_taken [.agg cv.toArray] w R := by
  apply t_law10_taken
  unfold d_law10_taken
  obtain ⟨vU, cU, vL, vN, vS, rfl, hI, hU, hL, hN, hSe⟩ := hC
  have e : (Value.agg [str sel, vU, vL, vN, vS].toArray).cells.toList = [str sel, vU, vL, vN, vS] := by simp [Value.cells]
  rw [e]
  have q1 := hU.one
  unfold tot at hm
  refine hS.al fun b1 w1 h1 => h1.al fun b2 w2 h2 => ?_
  have h2 : Sat g w2 ((b2, .cells cZ.toArray Ty.ref10_Code) :: (b1, .cells [str sel, vU, vL, vN, vS].toArray Ty.code_Code) :: H) := h2
  try simp only [↓E1, ↓E2, ↓E3, Nat.reduceAdd]
  rw [h2.ld1 0 _ (by simp)]
  refine bdI (cs := [str sel, .slice none 0 0, .slice none 0 0, .slice none 0 0, .slice none 0 0]) rfl ?_
  refine h2.al fun b3 w3 h3 => ?_
  have h3 : Sat g w3 ((b3, .cells cZ.toArray Ty.ref10_Code) :: (b2, .cells cZ.toArray Ty.ref10_Code) :: (b1, .cells [str sel, vU, vL, vN, vS].toArray Ty.code_Code) :: H) := h3
  refine st_all (c := [str sel, .slice none 0 0, .slice none 0 0, .slice none 0 0, .slice none 0 0]) (c2 := cZ) h3 rfl rfl rfl fun w4 h4 => ?_
  try simp only [↓E1, ↓E2, ↓E3, Nat.reduceAdd]
  rw [h4.ld0 2 _ (by simp)]
  try simp only [↓E1, ↓E2, ↓E3, Nat.reduceAdd]
  rw [h4.ld2 2 _ (by simp)]
  try simp only [↓E1, ↓E2, ↓E3, Nat.reduceAdd]
  refine ap_copy hL (by omega) h4 fun g5 vL5 w5 hg5 hL5 h5 => ?_
  have uL : vL5.cells = #[vL5] ∧ one vL5 = true := by obtain ⟨a, c, rfl, _⟩ := id hL5; exact ⟨rfl, rfl⟩
  try simp only [↓E1, ↓E2, ↓E3, Nat.reduceAdd]
  refine st_one h5 uL.1 uL.2 (by simp) fun w6 h6 => ?_
  simp only [List.set_cons_succ, List.set_cons_zero] at h6
  try simp only [↓E1, ↓E2, ↓E3, Nat.reduceAdd]
  rw [h6.ld0 3 _ (by simp)]
  try simp only [↓E1, ↓E2, ↓E3, Nat.reduceAdd]
  rw [h6.ld2 3 _ (by simp)]
  try simp only [↓E1, ↓E2, ↓E3, Nat.reduceAdd]
  refine ap_copy (hN.mono hg5) (by omega) h6 fun g7 vN7 w7 hg7 hN7 h7 => ?_
  have uN : vN7.cells = #[vN7] ∧ one vN7 = true := by obtain ⟨a, c, rfl, _⟩ := id hN7; exact ⟨rfl, rfl⟩
  try simp only [↓E1, ↓E2, ↓E3, Nat.reduceAdd]
  refine st_one h7 uN.1 uN.2 (by simp) fun w8 h8 => ?_
  simp only [List.set_cons_succ, List.set_cons_zero] at h8
  try simp only [↓E1, ↓E2, ↓E3, Nat.reduceAdd]
  rw [h8.ld0 4 _ (by simp)]
  try simp only [↓E1, ↓E2, ↓E3, Nat.reduceAdd]
  rw [h8.ld2 4 _ (by simp)]
  try simp only [↓E1, ↓E2, ↓E3, Nat.reduceAdd]
  refine ap_copy (hSe.mono (hg5.trans hg7)) (by omega) h8 fun g9 vS9 w9 hg9 hS9 h9 => ?_
  have uS : vS9.cells = #[vS9] ∧ one vS9 = true := by obtain ⟨a, c, rfl, _⟩ := id hS9; exact ⟨rfl, rfl⟩
  try simp only [↓E1, ↓E2, ↓E3, Nat.reduceAdd]
  refine st_one h9 uS.1 uS.2 (by simp) fun w10 h10 => ?_
  simp only [List.set_cons_succ, List.set_cons_zero] at h10
  try simp only [↓E1, ↓E2, ↓E3, Nat.reduceAdd]
  have hg9' : g.le g9 := hg5.trans (hg7.trans hg9)
  have hL9 := hL5.mono (hg7.trans hg9)
  have hN9 := hN7.mono hg9
  clear h9 h8 h7 h6 h5 h4 h3 h2 h1 hg5 hg7 hg9 hL5 hN7
  refine lp1 (fun q x w' => ∃ i g' vU' cU' hpU, x = i64 ((i : Nat) : Int) ∧ q = m.units.length - i ∧ i ≤ m.units.length ∧ g9.le g' ∧ UI g' (m.units.take i) cU' ∧ Grow Ty.ref10_Unit 3 vU' i cU' hpU ∧
      Sat g' w' ((b3, .cells [str sel, vU', vL5, vN7, vS9].toArray Ty.ref10_Code) :: (b2, .cells cZ.toArray Ty.ref10_Code) :: (b1, .cells [str sel, vU, vL, vN, vS].toArray Ty.code_Code) :: (hpU ++ H))) m.units.length
    ⟨0, g9, .slice none 0 0, [], [], rfl, rfl, by omega, .refl _, .nil, .nil, h10⟩ ?_
  rintro q x w11 ⟨i, g11, vU', cU', hpU, rfl, rfl, hi, hg11, hI', hgU, h11⟩
  clear h10
  have hgl := hg9'.trans hg11
  have hI11 := hI.mono hgl
  have hU11 := hU.mono hgl
  obtain ⟨aU, cpU, rfl, _, _, _⟩ := id hU
  try simp only [↓E1, ↓E2, ↓E3, Nat.reduceAdd]
  rw [h11.ld2 1 _ (by simp)]
  try simp only [↓E1, ↓E2, ↓E3, Nat.reduceAdd]
  rw [cnd_dec]
  constructor
  · intro hlt
    have hlt : i < m.units.length := by omega
    obtain ⟨x, hx⟩ : ∃ x, m.units[i]? = some x := ⟨_, List.getElem?_eq_getElem hlt⟩
    have hxl := insT_at hx
    have h12 := h11.drew
    try simp only [↓E1, ↓E2, ↓E3, Nat.reduceAdd]
    rw [h12.ld2 1 _ (by simp)]
    try simp only [↓E1, ↓E2, ↓E3, Nat.reduceAdd]
    refine hI11.at hU11 hx h12 fun b o v hc0 hc1 hc2 hv => ?_
    try simp only [↓E1, ↓E2, ↓E3, Nat.reduceAdd]
    rw [Nat.add_zero, h12.ldI hc0]
    try simp only [↓E1, ↓E2, ↓E3, Nat.reduceAdd]
    rw [h12.ld2 1 _ (by simp)]
    try simp only [↓E1, ↓E2, ↓E3, Nat.reduceAdd]
    refine hI11.at hU11 hx h12 fun b' o' v' hc0' hc1' hc2' hv' => ?_
    try simp only [↓E1, ↓E2, ↓E3, Nat.reduceAdd]
    rw [h12.ldI hc1']
    refine bdI (cs := [i64 (x.args : Int), i64 (x.names : Int), .slice none 0 0]) rfl ?_
    refine h12.al fun b5 w13 h13 => ?_
    refine h13.rkI hc1' ?_
    refine h13.rk (b := b1) (t := Ty.code_Code) (fr := (0, 0)) (c := [str sel, _, vL, vN, vS]) (by simp) rfl ?_
    refine h13.rkI hc0 ?_
    refine h13.rk (b := b1) (t := Ty.code_Code) (fr := (0, 0)) (c := [str sel, _, vL, vN, vS]) (by simp) rfl ?_
    refine st_all (c := [i64 (x.args : Int), i64 (x.names : Int), .slice none 0 0]) (c2 := [.int .i64 0, .int .i64 0, .slice none 0 0]) h13 rfl rfl rfl fun w14 h14 => ?_
    clear hc0' hc1' hc2' hv' hc0 hc1 hc2 hv v v' b o b' o'
    refine lp1 (fun q y w' => ∃ k v5 hp5, y = i64 ((k : Nat) : Int) ∧ q = x.ins.length - k ∧ k ≤ x.ins.length ∧ Grow Ty.ref10_Ins 3 v5 k (insZ (x.ins.take k)) hp5 ∧
        Sat g11 w' ((b5, .cells [i64 (x.args : Int), i64 (x.names : Int), v5].toArray Ty.ref10_Unit) :: (b3, .cells [str sel, vU', vL5, vN7, vS9].toArray Ty.ref10_Code) :: (b2, .cells cZ.toArray Ty.ref10_Code) :: (b1, .cells [str sel, .slice aU m.units.length cpU, vL, vN, vS].toArray Ty.code_Code) :: (hp5 ++ (hpU ++ H)))) x.ins.length
      ⟨0, .slice none 0 0, [], rfl, rfl, by omega, .nil, h14⟩ ?_
    rintro q y w15 ⟨k, v5, hp5, rfl, rfl, hk, hg5, h15⟩
    clear h14
    try simp only [↓E1, ↓E2, ↓E3, Nat.reduceAdd]
    rw [h15.ld3 1 _ (by simp)]
    try simp only [↓E1, ↓E2, ↓E3, Nat.reduceAdd]
    refine hI11.at hU11 hx h15 fun b o v hc0 hc1 hc2 hv => ?_
    try simp only [↓E1, ↓E2, ↓E3, Nat.reduceAdd]
    rw [h15.ldI hc2]
    obtain ⟨av, cv, rfl, _, _, _⟩ := id hv
    try simp only [↓E1, ↓E2, ↓E3, Nat.reduceAdd]
    rw [cnd_dec]
    constructor
    · intro hlk
      have hlk : k < x.ins.length := by omega
      obtain ⟨y, hy⟩ : ∃ y, x.ins[k]? = some y := ⟨_, List.getElem?_eq_getElem hlk⟩
      try simp only [↓E1, ↓E2, ↓E3, Nat.reduceAdd]
      rw [h15.ld3 1 _ (by simp)]
      try simp only [↓E1, ↓E2, ↓E3, Nat.reduceAdd]
      refine hI11.at hU11 hx h15 fun b' o' v' hc0' hc1' hc2' hv' => ?_
      try simp only [↓E1, ↓E2, ↓E3, Nat.reduceAdd]
      rw [h15.ldI hc2']
      try simp only [↓E1, ↓E2, ↓E3, Nat.reduceAdd]
      refine insAt hv' hy h15 fun bi oi hci => ?_
      refine h15.ldnI (vs := insC y) hci ?_
      refine h15.al fun b7 w16 h16 => ?_
      refine st_all (c := insC y) (c2 := [.int .i64 0, .int .i64 0, .int .i64 0]) h16 rfl rfl rfl fun w17 h17 => ?_
      try simp only [↓E1, ↓E2, ↓E3, Nat.reduceAdd]
      rw [h17.ld1 2 _ (by simp)]
      try simp only [↓E1, ↓E2, ↓E3, Nat.reduceAdd]
      rw [h17.ld0 0 _ (by simp [insC])]
      try simp only [↓E1, ↓E2, ↓E3, Nat.reduceAdd]
      rw [h17.ld0 1 _ (by simp [insC])]
      try simp only [↓E1, ↓E2, ↓E3, Nat.reduceAdd]
      rw [h17.ld0 2 _ (by simp [insC])]
      refine bdI (cs := insC y) rfl ?_
      refine h17.bs (cs := insC y) rfl fun bn w18 h18 => ?_
      have h19 := Sat.pull1 (A := [(b7, _), (b5, _), (b3, _), (b2, _), (b1, _)]) (hp := hp5) h18
      refine h19.ap1 (m := 1) hg5 rfl rfl rfl (by omega) (by omega) fun v6 hp6 w20 hg6 h20 => ?_
      have h20 := (Sat.pull (A := hp6) (hp := [(b7, _), (b5, _), (b3, _), (b2, _), (b1, _)]) h20).tail
      have u6 : v6.cells = #[v6] ∧ one v6 = true := by obtain ⟨a, c, rfl⟩ := hg6.slice; exact ⟨rfl, rfl⟩
      try simp only [↓E1, ↓E2, ↓E3, Nat.reduceAdd]
      refine st_one h20 u6.1 u6.2 (by simp) fun w21 h21 => ?_
      simp only [List.set_cons_succ, List.set_cons_zero] at h21
      rw [insZ_take hy] at hg6
      try simp only [↓E1, ↓E2, ↓E3, Nat.reduceAdd]
      rw [wrap64_succ (by omega)]
      exact ⟨x.ins.length - (k + 1), by omega, _, rfl, k + 1, v6, hp6, rfl, rfl, by omega, hg6, h21⟩
    · intro hge
      have hkl : k = x.ins.length := by omega
      subst hkl
      rw [List.take_length] at hg5
      try simp only [↓E1, ↓E2, ↓E3, Nat.reduceAdd]
      rw [h15.ld1 1 _ (by simp)]
      try simp only [↓E1, ↓E2, ↓E3, Nat.reduceAdd]
      refine h15.ldn0 (c := [i64 (x.args : Int), i64 (x.names : Int), v5]) rfl ?_
      refine h15.bs (cs := [i64 (x.args : Int), i64 (x.names : Int), v5]) rfl fun bn w16 h16 => ?_
      have u5 : one v5 = true := by obtain ⟨a, c, rfl⟩ := hg5.slice; rfl
      have h17 := Sat.pull1 (A := [(b5, _), (b3, _), (b2, _), (b1, _)] ++ hp5) (hp := hpU) (by simpa using h16)
      refine h17.ap1 (m := 1) hgU rfl rfl (by simp only [allOne, u5]; rfl) (by omega) (by omega) fun v6 hp6 w20 hg6 h20 => ?_
      have h21 : Sat g11 w20 (hp5 ++ ((b3, .cells [str sel, vU', vL5, vN7, vS9].toArray Ty.ref10_Code) :: (b2, .cells cZ.toArray Ty.ref10_Code) :: (b1, .cells [str sel, .slice aU m.units.length cpU, vL, vN, vS].toArray Ty.code_Code) :: (hp6 ++ H))) := by
        have h := Sat.pull (A := hp6) (hp := [(b5, _), (b3, _), (b2, _), (b1, _)] ++ hp5) h20
        have h := Sat.tail h
        exact Sat.pull (A := [(b3, _), (b2, _), (b1, _)]) (hp := hp5) (by simpa using h)
      obtain ⟨g22, hg22, h22, hs22⟩ := hg5.freeze h21
      have u6 : v6.cells = #[v6] ∧ one v6 = true := by obtain ⟨a, c, rfl⟩ := hg6.slice; exact ⟨rfl, rfl⟩
      try simp only [↓E1, ↓E2, ↓E3, Nat.reduceAdd]
      refine st_one h22 u6.1 u6.2 (by simp) fun w23 h23 => ?_
      simp only [List.set_cons_succ, List.set_cons_zero] at h23
      try simp only [↓E1, ↓E2, ↓E3, Nat.reduceAdd]
      rw [wrap64_succ (by omega)]
      refine ⟨m.units.length - (i + 1), by omega, _, rfl, i + 1, g22, v6, _, hp6, rfl, rfl, by omega, hg11.trans hg22, ?_, hg6, h23⟩
      have := (hI'.mono hg22).snoc hs22
      rw [List.take_add_one, hx]
      exact this
  · intro hge
    have hil : i = m.units.length := by omega
    subst hil
    rw [List.take_length] at hI'
    have uu : one vU' = true := by obtain ⟨a, c, rfl⟩ := hgU.slice; rfl
    have oS : allOne [str sel, vU', vL5, vN7, vS9] = true := by simp only [allOne, uu, uL.2, uN.2, uS.2]; rfl
    refine h11.ldn0 (c := [str sel, vU', vL5, vN7, vS9]) rfl ?_
    refine st_all (c := [str sel, vU', vL5, vN7, vS9]) (c2 := cZ) h11.swap2 rfl rfl oS fun w12 h12 => ?_
    refine h12.ldn0 (c := [str sel, vU', vL5, vN7, vS9]) rfl ?_
    obtain ⟨g13, hg13, h13, hs13⟩ := hgU.freeze h12.tail.tail.tail
    have hl := hg11.trans hg13
    exact hR g13 _ w12 (hgl.trans hg13) ⟨vU', cU', vL5, vN7, vS9, rfl, hI'.mono hg13, hs13, hL9.mono hl, hN9.mono hl, hS9.mono hl⟩ h13
end Go.Vx
namespace Go.Vx
open Go Go.Proofs
variable {R : Ending → World → Prop} {g : G} {w : World} {H hp T : Hp}

theorem c_lonce {v : Value} {l : List (List UInt8)} (hv : SS g v l) (hl : l.length ≤ 1073741824) (hn : l.Nodup) (hS : Sat g w H) (hR : ∀ w', Sat g w' H → R (.returned (.bool true)) w') : Tr P F.law10_once [v] w R := by
  apply t_law10_once
  unfold d_law10_once
  refine lp2 (fun q x y w' => ∃ i, y = i64 ((i : Nat) : Int) ∧ q = l.length - i ∧ i ≤ l.length ∧ Sat g w' H) l.length ⟨0, rfl, rfl, by omega, hS⟩ ?_
  rintro q x y w1 ⟨i, rfl, rfl, hi, h1⟩
  obtain ⟨a, c, rfl, _, _, _⟩ := id hv
  try simp only [↓E1, ↓E2, ↓E3, Nat.reduceAdd]
  rw [cnd_dec]
  constructor
  · intro hlt
    have hlt : i < l.length := by omega
    refine lp2 (fun q x y w' => ∃ k, y = i64 ((k : Nat) : Int) ∧ q = i - k ∧ k ≤ i ∧ Sat g w' H) i ⟨0, rfl, rfl, by omega, h1⟩ ?_
    rintro q x y w2 ⟨k, rfl, rfl, hk, h2⟩
    try simp only [↓E1, ↓E2, ↓E3, Nat.reduceAdd]
    rw [cnd_dec]
    constructor
    · intro hlk
      have hlk : k < i := by omega
      have hx : l[i]? = some l[i] := List.getElem?_eq_getElem hlt
      have hy : l[k]? = some l[k] := List.getElem?_eq_getElem (by omega)
      have h3 := h2.drew
      refine SS.cell hv h3 hx fun b o hb => ?_
      rw [h3.ldI hb]
      refine SS.cell hv h3 hy fun b' o' hb' => ?_
      rw [h3.ldI hb']
      try simp only [↓E1, ↓E2, ↓E3, Nat.reduceAdd]
      rw [cnd_dec]
      constructor
      · intro he
        have := (List.getElem_inj hn).1 he
        omega
      · intro _
        try simp only [↓E1, ↓E2, ↓E3, Nat.reduceAdd]
        rw [wrap64_succ (by omega)]
        exact ⟨i - (k + 1), by omega, _, _, rfl, k + 1, rfl, rfl, by omega, h3⟩
    · intro _
      try simp only [↓E1, ↓E2, ↓E3, Nat.reduceAdd]
      rw [wrap64_succ (by omega)]
      exact ⟨l.length - (i + 1), by omega, _, _, rfl, i + 1, rfl, rfl, by omega, h2⟩
  · intro _
    exact hR w1 h1

/-- Is there such a step? -/
def anyI (us : List CU) (p : Ins → Bool) : Bool := us.any fun x => x.ins.any p
theorem anyI_of {us : List CU} {p : Ins → Bool} (h : hasI us p) : anyI us p = true := by
  obtain ⟨x, hx, i, hi, hp⟩ := h
  exact List.any_eq_true.2 ⟨x, hx, List.any_eq_true.2 ⟨i, hi, hp⟩⟩
theorem dec_beq (a b : Nat) : decide ((a : Int) = (b : Int)) = Nat.beq a b := by
  rw [Bool.eq_iff_iff, decide_eq_true_eq]
  constructor
  · intro h
    have : a = b := by omega
    rw [this]; exact Nat.beq_refl _
  · intro h
    have := Nat.eq_of_beq_eq_true h
    omega

theorem c_used {cv : List Value} {sel : List UInt8} {m : MK} (hC : CodeR g cv sel m) (hm : tot m ≤ 1073741824) {op other n : Nat} (hn : n ≤ 1073741824)
    (hu : ∀ a, a < n → hasI m.units (fun i => Nat.beq i.a a && (Nat.beq i.op op || Nat.beq i.op other))) (hS : Sat g w H)
    (hR : ∀ w', Sat g w' H → R (.returned (.bool true)) w') : Tr P F.law10_used [.agg cv.toArray, i64 (op : Int), i64 (other : Int), i64 (n : Int)] w R := by
  apply t_law10_used
  unfold d_law10_used
  obtain ⟨vU, cU, vL, vN, vS, rfl, hI, hU, hL, hN, hSe⟩ := hC
  have e : (Value.agg [str sel, vU, vL, vN, vS].toArray).cells.toList = [str sel, vU, vL, vN, vS] := by simp [Value.cells]
  rw [e]
  unfold tot at hm
  refine hS.al fun b1 w1 h1 => ?_
  obtain ⟨aU, cpU, rfl, _, _, _⟩ := id hU
  obtain ⟨cc, hcc⟩ : ∃ cc, cc = [str sel, Value.slice aU m.units.length cpU, vL, vN, vS] := ⟨_, rfl⟩
  have g1 : cc.getD 1 undef = Value.slice aU m.units.length cpU := by rw [hcc]; rfl
  have gl : 1 < cc.length := by rw [hcc]; simp
  rw [← hcc] at h1
  clear hcc
  refine lp2 (fun q x y w' => ∃ a, y = i64 ((a : Nat) : Int) ∧ q = n - a ∧ a ≤ n ∧ Sat g w' ((b1, .cells cc.toArray Ty.ref10_Code) :: H)) n ⟨0, rfl, rfl, by omega, h1⟩ ?_
  rintro q x8 y w2 ⟨a, rfl, rfl, ha, h2⟩
  try simp only [↓E1, ↓E2, ↓E3, Nat.reduceAdd]
  rw [cnd_dec]
  constructor
  · intro hlt
    have hlt : a < n := by omega
    have hany := anyI_of (hu a hlt)
    obtain ⟨p, hp⟩ : ∃ p : Ins → Bool, p = fun i => Nat.beq i.a a && (Nat.beq i.op op || Nat.beq i.op other) := ⟨_, rfl⟩
    rw [← hp] at hany
    refine lp2 (fun q x y w' => ∃ i, x = .bool (anyI (m.units.take i) p) ∧ y = i64 ((i : Nat) : Int) ∧ q = m.units.length - i ∧ i ≤ m.units.length ∧ Sat g w' ((b1, .cells cc.toArray Ty.ref10_Code) :: H)) m.units.length ⟨0, rfl, rfl, rfl, by omega, h2⟩ ?_
    rintro q x y w3 ⟨i, rfl, rfl, rfl, hi, h3⟩
    try simp only [↓E1, ↓E2, ↓E3, Nat.reduceAdd]
    rw [h3.ld0 1 _ gl, g1]
    try simp only [↓E1, ↓E2, ↓E3, Nat.reduceAdd]
    rw [cnd_dec]
    constructor
    · intro hli
      have hli : i < m.units.length := by omega
      obtain ⟨x, hx⟩ : ∃ x, m.units[i]? = some x := ⟨_, List.getElem?_eq_getElem hli⟩
      have hxl := insT_at hx
      refine lp2 (fun q z y w' => ∃ k, z = .bool (anyI (m.units.take i) p || (x.ins.take k).any p) ∧ y = i64 ((k : Nat) : Int) ∧ q = x.ins.length - k ∧ k ≤ x.ins.length ∧ Sat g w' ((b1, .cells cc.toArray Ty.ref10_Code) :: H)) x.ins.length
        ⟨0, by simp, rfl, rfl, by omega, h3⟩ ?_
      rintro q z y w4 ⟨k, rfl, rfl, rfl, hk, h4⟩
      try simp only [↓E1, ↓E2, ↓E3, Nat.reduceAdd]
      rw [h4.ld0 1 _ gl, g1]
      try simp only [↓E1, ↓E2, ↓E3, Nat.reduceAdd]
      refine hI.at hU hx h4 fun b o v hc0 hc1 hc2 hv => ?_
      try simp only [↓E1, ↓E2, ↓E3, Nat.reduceAdd]
      rw [h4.ldI hc2]
      obtain ⟨av, cpv, rfl, _, _, _⟩ := id hv
      try simp only [↓E1, ↓E2, ↓E3, Nat.reduceAdd]
      rw [cnd_dec]
      constructor
      · intro hlk
        have hlk : k < x.ins.length := by omega
        obtain ⟨y, hy⟩ : ∃ y, x.ins[k]? = some y := ⟨_, List.getElem?_eq_getElem hlk⟩
        try simp only [↓E1, ↓E2, ↓E3, Nat.reduceAdd]
        rw [h4.ld0 1 _ gl, g1]
        try simp only [↓E1, ↓E2, ↓E3, Nat.reduceAdd]
        refine hI.at hU hx h4 fun b' o' v' hc0' hc1' hc2' hv' => ?_
        try simp only [↓E1, ↓E2, ↓E3, Nat.reduceAdd]
        rw [h4.ldI hc2']
        try simp only [↓E1, ↓E2, ↓E3, Nat.reduceAdd]
        refine insAt hv' hy h4 fun bi oi hci => ?_
        refine h4.ldnI (vs := insC y) hci ?_
        refine h4.al fun b7 w5 h5 => ?_
        refine st_all (c := insC y) (c2 := [.int .i64 0, .int .i64 0, .int .i64 0]) h5 rfl rfl rfl fun w6 h6 => ?_
        have hnext : ∀ bb : Bool, bb = (anyI (m.units.take i) p || (x.ins.take k).any p || p y) → ∃ m', m' < x.ins.length - k ∧ ∃ a b, [Value.bool bb, Value.int IntKind.i64 (IntKind.i64.wrap ((k : Int) + 1))] = [a, b] ∧
            ∃ k, a = .bool (anyI (m.units.take i) p || (x.ins.take k).any p) ∧ b = i64 ((k : Nat) : Int) ∧ m' = x.ins.length - k ∧ k ≤ x.ins.length ∧ Sat g w6 ((b1, .cells cc.toArray Ty.ref10_Code) :: H) := by
          intro bb hbb
          rw [wrap64_succ (by omega)]
          refine ⟨x.ins.length - (k + 1), by omega, _, _, rfl, k + 1, ?_, rfl, rfl, by omega, h6.tail⟩
          rw [hbb, List.take_add_one, hy, List.any_append]
          simp [Bool.or_assoc]
        have hpy : p y = (Nat.beq y.a a && (Nat.beq y.op op || Nat.beq y.op other)) := by rw [hp]
        have c0 : (insC y).getD 0 undef = i64 (y.op : Int) := rfl
        have c1 : (insC y).getD 1 undef = i64 (y.a : Int) := rfl
        try simp only [↓E1, ↓E2, ↓E3, Nat.reduceAdd]
        cases hB : (anyI (m.units.take i) p || (x.ins.take k).any p)
        · rw [hB, Bool.false_or, hpy] at hnext
          try simp only [↓E1, ↓E2, ↓E3, Nat.reduceAdd]
          rw [h6.ld0 1 _ (by simp [insC]), c1]
          try simp only [↓E1, ↓E2, ↓E3, Nat.reduceAdd]
          rw [dec_beq]
          cases hA : Nat.beq y.a a
          · rw [hA] at hnext
            try simp only [↓E1, ↓E2, ↓E3, Nat.reduceAdd]
            exact hnext _ rfl
          · rw [hA] at hnext
            try simp only [↓E1, ↓E2, ↓E3, Nat.reduceAdd]
            rw [h6.ld0 0 _ (by simp [insC]), c0]
            try simp only [↓E1, ↓E2, ↓E3, Nat.reduceAdd]
            rw [dec_beq]
            cases hO : Nat.beq y.op op
            · rw [hO] at hnext
              try simp only [↓E1, ↓E2, ↓E3, Nat.reduceAdd]
              rw [h6.ld0 0 _ (by simp [insC]), c0]
              try simp only [↓E1, ↓E2, ↓E3, Nat.reduceAdd]
              rw [dec_beq]
              exact hnext _ rfl
            · rw [hO] at hnext
              try simp only [↓E1, ↓E2, ↓E3, Nat.reduceAdd]
              exact hnext _ rfl
        · rw [hB] at hnext
          try simp only [↓E1, ↓E2, ↓E3, Nat.reduceAdd]
          exact hnext _ rfl
      · intro hge
        have hkl : k = x.ins.length := by omega
        subst hkl
        try simp only [↓E1, ↓E2, ↓E3, Nat.reduceAdd]
        rw [wrap64_succ (by omega)]
        refine ⟨m.units.length - (i + 1), by omega, _, _, rfl, i + 1, ?_, rfl, rfl, by omega, h4⟩
        rw [List.take_length, List.take_add_one, hx]
        simp [anyI, List.any_append]
    · intro hge
      have hil : i = m.units.length := by omega
      subst hil
      rw [List.take_length, hany]
      try simp only [Bool.not_true, ↓E1, ↓E2, ↓E3, Nat.reduceAdd]
      rw [wrap64_succ (by omega)]
      exact ⟨n - (a + 1), by omega, _, _, rfl, a + 1, rfl, rfl, by omega, h3⟩
  · intro _
    exact hR w2 h2.tail
end Go.Vx
namespace Go.Vx
open Go Go.Proofs
variable {R : Ending → World → Prop} {g : G} {w : World} {H hp T : Hp}

theorem fields39 : P.underlying 39 = some (.struct (P.fieldsOf 39)) := by kernel_rfl
theorem part_int (i : Nat) (xs : Array Value) (v : Value) (hv : xs[i]? = some v) (w : World) : (part 3 xs i).run P w = .ok v w := by
  have u3 := Tryz.underlying3
  have a3 := Tryz.isAgg3
  have z3 := Tryz.sizeOf3
  unfold part
  go_simp
theorem run_neq39 (x : List Value) (a b c : Int) (hx : x = [i64 a, i64 b, i64 c]) (o1 o2 : Operand) (w : World) : (eqRun .neq 39 o1 o2 (.agg x.toArray) (.agg x.toArray)).run P w = .ok (.bool false) w := by
  subst hx
  unfold eqRun
  have hg : P.eqGuardType P.depth 39 = false := by kernel_rfl
  have hp : P.stoodInHeld 39 = false := by kernel_rfl
  rw [Sem.run_bind, run_eqGuard_agg w .neq 39 o1 o2 _ _ hg]
  simp only [Result.andThen_ok]
  rw [run_neq_struct, show (10000 : Nat) = 9999 + 1 from rfl, run_equalIn_agg w 9999 39 _ _ fields39 hp]
  have hf : (P.fieldsOf 39).toList.map (fun f => (f.name, f.type, f.offset)) = [("Op", 3, 0), ("A", 3, 1), ("B", 3, 2)] := by kernel_rfl
  have h3 := Tryz.underlying3
  generalize (P.fieldsOf 39).toList = fs at hf
  have hl := congrArg List.length hf
  obtain ⟨f1, f2, f3, rfl⟩ : ∃ f1 f2 f3, fs = [f1, f2, f3] := by
    rcases fs with _ | ⟨f1, _ | ⟨f2, _ | ⟨f3, _ | ⟨f4, fs⟩⟩⟩⟩
    · simp at hl
    · simp at hl
    · simp at hl
    · exact ⟨_, _, _, rfl⟩
    · simp at hl
  · simp only [List.map_cons, List.map_nil, List.cons.injEq, Prod.mk.injEq, and_true] at hf
    obtain ⟨⟨n1, t1, o1⟩, ⟨n2, t2, o2⟩, ⟨n3, t3, o3⟩⟩ := hf
    simp only [Op.eqFields, n1, n2, n3, t1, t2, t3, o1, o2, o3]
    have e1 : ("Op" ≠ "_") = True := by simp
    have e2 : ("A" ≠ "_") = True := by simp
    have e3 : ("B" ≠ "_") = True := by simp
    have q := fun (a : Int) (w : World) => run_equalIn_int (P := P) w 9998 3 .i64 .i64 a a h3
    simp [e1, e2, e3, part_int 0 _ _ (show (#[i64 a, i64 b, i64 c] : Array Value)[0]? = some (i64 a) from rfl), part_int 1 _ _ (show (#[i64 a, i64 b, i64 c] : Array Value)[1]? = some (i64 b) from rfl), part_int 2 _ _ (show (#[i64 a, i64 b, i64 c] : Array Value)[2]? = some (i64 c) from rfl), q]

theorem c_Texts {v v2 : Value} {l : List (List UInt8)} (hv : SS g v l) (hv2 : SS g v2 l) (hl : l.length ≤ 1073741824) (hS : Sat g w H) (hR : ∀ w', Sat g w' H → R (.returned (.bool true)) w') : Tr P F.ref10_Texts [v, v2] w R := by
  apply t_ref10_Texts
  unfold d_ref10_Texts
  obtain ⟨a, c, rfl, _, _, _⟩ := id hv
  obtain ⟨a2, c2, rfl, _, _, _⟩ := id hv2
  try simp only [↓E1, ↓E2, ↓E3, Nat.reduceAdd]
  simp only [decide_true, Bool.not_true, ↓E3]
  refine lp2 (fun q x y w' => ∃ i, y = i64 ((i : Nat) : Int) ∧ q = l.length - i ∧ i ≤ l.length ∧ Sat g w' H) l.length ⟨0, rfl, rfl, by omega, hS⟩ ?_
  rintro q x y w1 ⟨i, rfl, rfl, hi, h1⟩
  try simp only [↓E1, ↓E2, ↓E3, Nat.reduceAdd]
  rw [cnd_dec]
  constructor
  · intro hlt
    have hx : l[i]? = some l[i] := List.getElem?_eq_getElem (by omega)
    have h3 := h1.drew
    refine SS.cell hv h3 hx fun b o hb => ?_
    rw [h3.ldI hb]
    refine SS.cell hv2 h3 hx fun b' o' hb' => ?_
    rw [h3.ldI hb']
    try simp only [decide_true, Bool.not_true, ↓E1, ↓E2, ↓E3, Nat.reduceAdd]
    rw [wrap64_succ (by omega)]
    exact ⟨l.length - (i + 1), by omega, _, _, rfl, i + 1, rfl, rfl, by omega, h3⟩
  · intro _
    exact hR w1 h1

theorem c_Same {cv cv2 : List Value} {sel : List UInt8} {m : MK} (hC : CodeR g cv sel m) (hC2 : CodeR g cv2 sel m) (hm : tot m ≤ 1073741824) (hS : Sat g w H) (hR : ∀ w', Sat g w' H → R (.returned (.bool true)) w') :
    Tr P F.ref10_Same [.agg cv.toArray, .agg cv2.toArray] w R := by
  apply t_ref10_Same
  unfold d_ref10_Same
  obtain ⟨vU, cU, vL, vN, vS, rfl, hI, hU, hL, hN, hSe⟩ := hC
  obtain ⟨vU2, cU2, vL2, vN2, vS2, rfl, hI2, hU2, hL2, hN2, hSe2⟩ := hC2
  have e : (Value.agg [str sel, vU, vL, vN, vS].toArray).cells.toList = [str sel, vU, vL, vN, vS] := by simp [Value.cells]
  have e2 : (Value.agg [str sel, vU2, vL2, vN2, vS2].toArray).cells.toList = [str sel, vU2, vL2, vN2, vS2] := by simp [Value.cells]
  rw [e, e2]
  unfold tot at hm
  refine hS.al fun b1 w1 h1 => h1.al fun b2 w2 h2 => ?_
  clear h1
  obtain ⟨aU, cpU, rfl, _, _, _⟩ := id hU
  obtain ⟨aU2, cpU2, rfl, _, _, _⟩ := id hU2
  refine jn1 (fun x w' => Sat g w' ((b2, .cells [str sel, .slice aU2 m.units.length cpU2, vL2, vN2, vS2].toArray Ty.ref10_Code) :: (b1, .cells [str sel, .slice aU m.units.length cpU, vL, vN, vS].toArray Ty.ref10_Code) :: H)) ?_ ?_
  rotate_left
  · intro k1 hk1
    try simp only [↓E1, ↓E2, ↓E3, Nat.reduceAdd]
    rw [h2.ld1 0 _ (by simp)]
    try simp only [↓E1, ↓E2, ↓E3, Nat.reduceAdd]
    rw [h2.ld0 0 _ (by simp)]
    try simp only [decide_true, Bool.not_true, ↓E1, ↓E2, ↓E3, Nat.reduceAdd]
    rw [h2.ld1 2 _ (by simp)]
    try simp only [↓E1, ↓E2, ↓E3, Nat.reduceAdd]
    rw [h2.ld0 2 _ (by simp)]
    try simp only [↓E1, ↓E2, ↓E3, Nat.reduceAdd]
    refine c_Texts hL hL2 (by omega) h2 fun w3 h3 => ?_
    try simp only [Bool.not_true, ↓E1, ↓E2, ↓E3, Nat.reduceAdd]
    rw [h3.ld1 3 _ (by simp)]
    try simp only [↓E1, ↓E2, ↓E3, Nat.reduceAdd]
    rw [h3.ld0 3 _ (by simp)]
    try simp only [↓E1, ↓E2, ↓E3, Nat.reduceAdd]
    refine c_Texts hN hN2 (by omega) h3 fun w4 h4 => ?_
    try simp only [Bool.not_true, ↓E1, ↓E2, ↓E3, Nat.reduceAdd]
    rw [h4.ld1 4 _ (by simp)]
    try simp only [↓E1, ↓E2, ↓E3, Nat.reduceAdd]
    rw [h4.ld0 4 _ (by simp)]
    try simp only [↓E1, ↓E2, ↓E3, Nat.reduceAdd]
    refine c_Texts hSe hSe2 (by omega) h4 fun w5 h5 => ?_
    try simp only [Bool.not_true, ↓E1, ↓E2, ↓E3, Nat.reduceAdd]
    rw [h5.ld1 1 _ (by simp)]
    try simp only [↓E1, ↓E2, ↓E3, Nat.reduceAdd]
    rw [h5.ld0 1 _ (by simp)]
    try simp only [decide_true, Bool.not_true, ↓E1, ↓E2, ↓E3, Nat.reduceAdd]
    exact hk1 _ _ h5
  intro x w3 h3
  clear h2
  refine lp2 (fun q x y w' => ∃ i, y = i64 ((i : Nat) : Int) ∧ q = m.units.length - i ∧ i ≤ m.units.length ∧ Sat g w' ((b2, .cells [str sel, .slice aU2 m.units.length cpU2, vL2, vN2, vS2].toArray Ty.ref10_Code) :: (b1, .cells [str sel, .slice aU m.units.length cpU, vL, vN, vS].toArray Ty.ref10_Code) :: H)) m.units.length
    ⟨0, rfl, rfl, by omega, h3⟩ ?_
  rintro q x y w4 ⟨i, rfl, rfl, hi, h4⟩
  clear h3
  try simp only [↓E1, ↓E2, ↓E3, Nat.reduceAdd]
  rw [h4.ld1 1 _ (by simp)]
  try simp only [↓E1, ↓E2, ↓E3, Nat.reduceAdd]
  rw [cnd_dec]
  constructor
  · intro hli
    have hli : i < m.units.length := by omega
    obtain ⟨x, hx⟩ : ∃ x, m.units[i]? = some x := ⟨_, List.getElem?_eq_getElem hli⟩
    have hxl := insT_at hx
    try simp only [↓E1, ↓E2, ↓E3, Nat.reduceAdd]
    rw [h4.ld1 1 _ (by simp)]
    try simp only [↓E1, ↓E2, ↓E3, Nat.reduceAdd]
    refine hI.at hU hx h4 fun b o v hc0 hc1 hc2 hv => ?_
    refine h4.ldnI (vs := [i64 (x.args : Int), i64 (x.names : Int), v]) (fun j y hy => by
      match j, hy with
      | 0, hy => simp at hy; subst hy; exact hc0
      | 1, hy => simp at hy; subst hy; exact hc1
      | 2, hy => simp at hy; subst hy; exact hc2
      | j + 3, hy => simp at hy) ?_
    refine h4.al fun b6 w5 h5 => ?_
    refine st_all (c := [i64 (x.args : Int), i64 (x.names : Int), v]) (c2 := [.int .i64 0, .int .i64 0, .slice none 0 0]) h5 rfl rfl (by simp only [allOne, hv.one]; rfl) fun w6 h6 => ?_
    try simp only [↓E1, ↓E2, ↓E3, Nat.reduceAdd]
    rw [h6.ld1 1 _ (by simp)]
    try simp only [↓E1, ↓E2, ↓E3, Nat.reduceAdd]
    refine hI2.at hU2 hx h6 fun b' o' v' hc0' hc1' hc2' hv' => ?_
    refine h6.ldnI (vs := [i64 (x.args : Int), i64 (x.names : Int), v']) (fun j y hy => by
      match j, hy with
      | 0, hy => simp at hy; subst hy; exact hc0'
      | 1, hy => simp at hy; subst hy; exact hc1'
      | 2, hy => simp at hy; subst hy; exact hc2'
      | j + 3, hy => simp at hy) ?_
    refine h6.al fun b7 w7 h7 => ?_
    refine st_all (c := [i64 (x.args : Int), i64 (x.names : Int), v']) (c2 := [.int .i64 0, .int .i64 0, .slice none 0 0]) h7 rfl rfl (by simp only [allOne, hv'.one]; rfl) fun w8 h8 => ?_
    obtain ⟨av, cpv, rfl, _, _, _⟩ := id hv
    obtain ⟨av', cpv', rfl, _, _, _⟩ := id hv'
    refine jnI (n := 13) ?_
    obtain ⟨HH, hHH⟩ : ∃ HH, HH = (b2, .cells [str sel, .slice aU2 m.units.length cpU2, vL2, vN2, vS2].toArray Ty.ref10_Code) :: (b1, .cells [str sel, .slice aU m.units.length cpU, vL, vN, vS].toArray Ty.ref10_Code) :: H := ⟨_, rfl⟩
    rw [← hHH] at h8
    rw [← hHH]
    try simp only [↓E1, ↓E2, ↓E3, Nat.reduceAdd]
    rw [h8.ld1 0 _ (by simp)]
    try simp only [↓E1, ↓E2, ↓E3, Nat.reduceAdd]
    rw [h8.ld0 0 _ (by simp)]
    try simp only [decide_true, Bool.not_true, ↓E1, ↓E2, ↓E3, Nat.reduceAdd]
    rw [h8.ld1 1 _ (by simp)]
    try simp only [↓E1, ↓E2, ↓E3, Nat.reduceAdd]
    rw [h8.ld0 1 _ (by simp)]
    try simp only [decide_true, Bool.not_true, ↓E1, ↓E2, ↓E3, Nat.reduceAdd]
    rw [h8.ld1 2 _ (by simp)]
    try simp only [↓E1, ↓E2, ↓E3, Nat.reduceAdd]
    rw [h8.ld0 2 _ (by simp)]
    try simp only [decide_true, Bool.not_true, ↓E1, ↓E2, ↓E3, Nat.reduceAdd]
    refine lp2 (fun q z y w' => ∃ k, y = i64 ((k : Nat) : Int) ∧ q = x.ins.length - k ∧ k ≤ x.ins.length ∧ Sat g w' ((b7, .cells [i64 (x.args : Int), i64 (x.names : Int), .slice av' x.ins.length cpv'].toArray Ty.ref10_Unit) :: (b6, .cells [i64 (x.args : Int), i64 (x.names : Int), .slice av x.ins.length cpv].toArray Ty.ref10_Unit) :: HH)) x.ins.length
      ⟨0, rfl, rfl, by omega, h8⟩ ?_
    rintro q z y w9 ⟨k, rfl, rfl, hk, h9⟩
    clear h8
    try simp only [↓E1, ↓E2, ↓E3, Nat.reduceAdd]
    rw [h9.ld1 2 _ (by simp)]
    try simp only [↓E1, ↓E2, ↓E3, Nat.reduceAdd]
    rw [cnd_dec]
    constructor
    · intro hlk
      have hlk : k < x.ins.length := by omega
      obtain ⟨y, hy⟩ : ∃ y, x.ins[k]? = some y := ⟨_, List.getElem?_eq_getElem hlk⟩
      have h10 := h9.drew
      try simp only [↓E1, ↓E2, ↓E3, Nat.reduceAdd]
      rw [h10.ld1 2 _ (by simp)]
      try simp only [↓E1, ↓E2, ↓E3, Nat.reduceAdd]
      refine insAt hv hy h10 fun bi oi hci => ?_
      refine h10.ldnI (vs := insC y) hci ?_
      try simp only [↓E1, ↓E2, ↓E3, Nat.reduceAdd]
      rw [h10.ld0 2 _ (by simp)]
      try simp only [↓E1, ↓E2, ↓E3, Nat.reduceAdd]
      refine insAt hv' hy h10 fun bi' oi' hci' => ?_
      refine h10.ldnI (vs := insC y) hci' ?_
      refine ⟨.bool false, fun w' => run_neq39 (insC y) _ _ _ rfl _ _ w', ?_⟩
      try simp only [↓E1, ↓E2, ↓E3, Nat.reduceAdd]
      rw [wrap64_succ (by omega)]
      exact ⟨x.ins.length - (k + 1), by omega, _, _, rfl, k + 1, rfl, rfl, by omega, h10⟩
    · intro _
      try simp only [↓E1, ↓E2, ↓E3, Nat.reduceAdd]
      rw [wrap64_succ (by omega)]
      subst hHH
      exact ⟨m.units.length - (i + 1), by omega, _, _, rfl, i + 1, rfl, rfl, by omega, h9.tail.tail⟩
  · intro _
    exact hR w4 h4.tail.tail
end Go.Vx
namespace Go.Vx
open Go Go.Proofs
variable {R : Ending → World → Prop} {g : G} {w : World} {H hp T : Hp}

theorem c_known (hS : Sat g w H) (hR : ∀ g' w', g.le g' → Sat g' w' H → R (.returned (.bool true)) w') : Tr P F.law10_known [] w R := by
  apply t_law10_known
  unfold d_law10_known
  have e1 : (Value.string { data := #[51, 32, 102, 111, 111, 59, 32, 43, 32, 52] }) = str src1 := rfl
  have e2 : (Value.string { data := #[97, 32, 58, 61, 32, 51] }) = str src2 := rfl
  rw [e1, e2]
  try simp only [↓E2]
  have hnil : SS g (.slice none 0 0) [] := Sl.nil g 1
  refine c_Compile (slots := []) (by decide) hnil (by simp) hS (fun sel m g1 cv w1 hc hg1 hcv htot h1 => ?_) (fun p e g1 w1 hc _ _ => ?_)
  rotate_left
  · rw [known1] at hc; simp at hc
  rw [known1] at hc
  injection hc with hc
  injection hc with hs hm
  subst hs hm
  try simp only [↓E1, ↓E2, ↓E3, Nat.reduceAdd]
  refine h1.al fun b1 w2 h2 => ?_
  refine st_all (c := cv) (c2 := cZ) h2 hcv.len.1 rfl hcv.len.2 fun w3 h3 => ?_
  try simp only [↓E1, ↓E2, ↓E3, Nat.reduceAdd]
  refine c_Compile (slots := []) (by decide) (hnil.mono hg1) (by simp) h3 (fun sel m g1 cv w1 hc _ _ _ _ => ?_) (fun p e g4 w4 hc hg4 h4 => ?_)
  · rw [known2] at hc; simp at hc
  rw [known2] at hc
  injection hc with hc
  injection hc with hp he
  subst hp he
  try simp only [↓E1, ↓E2, ↓E3, Nat.reduceAdd]
  refine h4.al fun b4 w5 h5 => ?_
  refine st_all (c := cZ) (c2 := cZ) h5 rfl rfl rfl fun w6 h6 => ?_
  refine h6.bs (cs := [[51], [52]].map str) rfl fun b18 w7 h7 => ?_
  obtain ⟨g8, hg8, h8, hL⟩ := h7.frz (n := 2) (sz := 1) rfl (by decide)
  refine h8.bs (cs := [[102, 111, 111], [43]].map str) rfl fun b19 w9 h9 => ?_
  obtain ⟨g10, hg10, h10, hSe⟩ := h9.frz (n := 2) (sz := 1) rfl (by decide)
  refine bdI (cs := [str [], .slice none 0 0, .slice (some ⟨b18, 0, none⟩) 2 2, .slice none 0 0, .slice (some ⟨b19, 0, none⟩) 2 2]) rfl ?_
  refine h10.al fun b7 w11 h11 => ?_
  refine st_all (c := [str [], .slice none 0 0, .slice (some ⟨b18, 0, none⟩) 2 2, .slice none 0 0, .slice (some ⟨b19, 0, none⟩) 2 2]) (c2 := cZ) h11 rfl rfl rfl fun w12 h12 => ?_
  refine bdI (cs := insC ⟨0, 0, 0⟩) rfl ?_
  refine bdI (cs := insC ⟨11, 0, 0⟩) rfl ?_
  refine bdI (cs := insC ⟨8, 0, 0⟩) rfl ?_
  refine bdI (cs := insC ⟨12, 0, 0⟩) rfl ?_
  refine bdI (cs := insC ⟨0, 1, 0⟩) rfl ?_
  refine bdI (cs := insC ⟨8, 1, 1⟩) rfl ?_
  refine bdI (cs := insC ⟨13, 0, 0⟩) rfl ?_
  refine h12.bs (cs := insZ [⟨0, 0, 0⟩, ⟨11, 0, 0⟩, ⟨8, 0, 0⟩, ⟨12, 0, 0⟩, ⟨0, 1, 0⟩, ⟨8, 1, 1⟩, ⟨13, 0, 0⟩]) rfl fun b28 w13 h13 => ?_
  obtain ⟨g14, hg14, h14, hI⟩ := h13.frz (n := 7) (sz := 3) rfl (by decide)
  refine bdI (cs := [i64 0, i64 0, .slice (some ⟨b28, 0, none⟩) 7 7]) rfl ?_
  refine h14.bs (cs := [i64 0, i64 0, .slice (some ⟨b28, 0, none⟩) 7 7]) rfl fun b30 w15 h15 => ?_
  obtain ⟨g16, hg16, h16, hU⟩ := h15.frz (n := 1) (sz := 3) rfl (by decide)
  try simp only [↓E1, ↓E2, ↓E3, Nat.reduceAdd]
  refine st_one h16 rfl rfl (by simp) fun w17 h17 => ?_
  simp only [List.set_cons_succ, List.set_cons_zero] at h17
  have h18 := h17.drew
  have hgall : g1.le g16 := hg4.trans (hg8.trans (hg10.trans (hg14.trans hg16)))
  obtain ⟨cw, hcw⟩ : ∃ cw, cw = [str [], Value.slice (some ⟨b30, 0, none⟩) 1 1, .slice (some ⟨b18, 0, none⟩) 2 2, .slice none 0 0, .slice (some ⟨b19, 0, none⟩) 2 2] := ⟨_, rfl⟩
  have hwant : CodeR g16 cw [] mk1 := by
    refine ⟨_, _, _, _, _, hcw, .cons ?_ .nil, hU, hL.mono (hg10.trans (hg14.trans hg16)), Sl.nil _ 1, hSe.mono (hg14.trans hg16)⟩
    exact hI.mono hg16
  rw [← hcw] at h18
  try simp only [↓E1, ↓E2, ↓E3, Nat.reduceAdd]
  simp only [decide_true, ↓E3]
  refine h18.ldnH (b := b1) (c := cv) (t := Ty.code_Code) (fr := (0, 0)) (by simp) 5 0 (by rw [hcv.len.1]; omega) ?_
  rw [List.drop_zero, List.take_of_length_le (by rw [hcv.len.1]; omega)]
  refine h18.ldn0 (c := cw) (by rw [hcw]; rfl) ?_
  try simp only [↓E1, ↓E2, ↓E3, Nat.reduceAdd]
  refine c_taken (hcv.mono hgall) htot h18 fun g19 cv19 w19 hg19 hcv19 h19 => ?_
  try simp only [↓E1, ↓E2, ↓E3, Nat.reduceAdd]
  refine h19.rkA (b := b7) (t := Ty.ref10_Code) (fr := (0, 0)) (by simp) ?_
  try simp only [↓E1, ↓E2, ↓E3, Nat.reduceAdd]
  refine c_Same hcv19 (hwant.mono hg19) htot h19 fun w20 h20 => ?_
  try simp only [↓E1, ↓E2, ↓E3, Nat.reduceAdd]
  rw [show decide (((0 : Nat) : Int) = 0) = true from rfl, show decide (((21 : Nat) : Int) = 21) = true from rfl]
  try simp only [↓E1, ↓E2, ↓E3, Nat.reduceAdd]
  exact hR g19 w20 (hg1.trans (hgall.trans hg19)) h20.tail.tail.tail
end Go.Vx
namespace Go.Vx
open Go Go.Proofs
variable {R : Ending → World → Prop} {g : G} {w : World} {H hp T : Hp}

theorem compile_err {slots : List (List UInt8)} {s : List UInt8} {p e : Nat} (h : compileS slots s = .error (p, e)) : e ≠ 0 := by
  unfold compileS codeS at h
  cases hp : parseS s with
  | error x =>
    obtain ⟨q, e'⟩ := x
    rw [hp] at h
    injection h with h
    injection h with h1 h2
    subst h1 h2
    exact parse_err hp
  | ok n =>
    rw [hp] at h
    simp only [] at h
    cases hm : makeS slots n with
    | error p =>
      rw [hm] at h
      injection h with h
      injection h with _ h
      omega
    | ok m => rw [hm] at h; simp at h

theorem nBi_le (l : List Ins) : nBi l ≤ l.length := by
  induction l with
  | nil => simp [nBi]
  | cons x l ih => simp only [nBi, List.length_cons]; cases Nat.beq x.op 10 <;> simp <;> omega
theorem nB_le (l : List CU) : nB l ≤ insT l := by
  induction l with
  | nil => simp [nB]
  | cons x l ih => have := nBi_le x.ins; simp only [nB, insT]; omega
theorem insT_take (l : List CU) (i : Nat) : insT (l.take i) ≤ insT l := by
  induction l generalizing i with
  | nil => simp
  | cons x l ih => cases i with
    | zero => simp [insT]
    | succ i => have := ih i; simp only [List.take_succ_cons, insT]; omega

theorem c_CodeOnce {s : List UInt8} {sv : Value} {slots : List (List UInt8)} (hs : s.length ≤ 9223372036854775807) (hsl : SS g sv slots) (hsn : slots.length ≤ 4611686018427387904) (hS : Sat g w H)
    (hR : ∀ g' w', g.le g' → Sat g' w' H → R (.returned (.bool true)) w') : Tr P F.law10_CodeOnce [str s, sv] w R := by
  apply t_law10_CodeOnce
  unfold d_law10_CodeOnce
  try simp only [↓E2]
  refine c_Compile hs hsl hsn hS (fun sel m g1 cv w1 hc hg1 hcv htot h1 => ?_) (fun p e g1 w1 hc hg1 h1 => ?_)
  rotate_left
  · try simp only [↓E1, ↓E2, ↓E3, Nat.reduceAdd]
    refine h1.al fun b1 w2 h2 => ?_
    refine st_all (c := cZ) (c2 := cZ) h2 rfl rfl rfl fun w3 h3 => ?_
    have he := compile_err hc
    have : decide ((e : Int) = 0) = false := by rw [decide_eq_false_iff_not]; omega
    try simp only [↓E1, ↓E2, ↓E3, Nat.reduceAdd]
    rw [this]
    try simp only [Bool.not_false, ↓E1, ↓E2, ↓E3, Nat.reduceAdd]
    refine c_known h3.tail fun g4 w4 hg4 h4 => ?_
    try simp only [↓E1, ↓E2, ↓E3, Nat.reduceAdd]
    exact hR g4 w4 (hg1.trans hg4) h4
  obtain ⟨hinv, hblk⟩ := once_holds hc
  try simp only [↓E1, ↓E2, ↓E3, Nat.reduceAdd]
  refine h1.al fun b1 w2 h2 => ?_
  refine st_all (c := cv) (c2 := cZ) h2 hcv.len.1 rfl hcv.len.2 fun w3 h3 => ?_
  try simp only [↓E1, ↓E2, ↓E3, Nat.reduceAdd]
  simp only [decide_true, Bool.not_true, ↓E3]
  refine h3.ldn0 (c := cv) hcv.len.1.symm ?_
  try simp only [↓E1, ↓E2, ↓E3, Nat.reduceAdd]
  refine c_taken hcv htot h3.tail fun g4 cv4 w4 hg4 hcv4 h4 => ?_
  clear h2 h3 h1
  try simp only [↓E1, ↓E2, ↓E3, Nat.reduceAdd]
  refine h4.al fun b8 w5 h5 => ?_
  refine st_all (c := cv4) (c2 := cZ) h5 hcv4.len.1 rfl hcv4.len.2 fun w6 h6 => ?_
  clear h5 h4
  have hcv4' := hcv4
  obtain ⟨vU, cU, vL, vN, vS, rfl, hI, hU, hL, hN, hSe⟩ := hcv4'
  obtain ⟨aU, cpU, rfl, _, _, _⟩ := id hU
  obtain ⟨cc, hcc⟩ : ∃ cc, cc = [str sel, Value.slice aU m.units.length cpU, vL, vN, vS] := ⟨_, rfl⟩
  have gl : cc.length = 5 := by rw [hcc]; rfl
  have k1 : cc.getD 1 undef = Value.slice aU m.units.length cpU := by rw [hcc]; rfl
  have k2 : cc.getD 2 undef = vL := by rw [hcc]; rfl
  have k3 : cc.getD 3 undef = vN := by rw [hcc]; rfl
  have k4 : cc.getD 4 undef = vS := by rw [hcc]; rfl
  rw [← hcc] at h6 hcv4
  clear hcc
  have hmt := htot
  unfold tot at hmt
  have hlen0 : ¬ ((m.units.length : Int) = 0) := by omega
  refine jn1 (fun x w' => Sat g4 w' ((b8, .cells cc.toArray Ty.ref10_Code) :: H)) ?_ ?_
  rotate_left
  · intro q1 hq1
    try simp only [↓E1, ↓E2, ↓E3, Nat.reduceAdd]
    rw [h6.ld0 2 _ (by omega), k2]
    try simp only [↓E1, ↓E2, ↓E3, Nat.reduceAdd]
    refine c_lonce hL (by omega) hinv.lits h6 fun w7 h7 => ?_
    try simp only [Bool.not_true, ↓E1, ↓E2, ↓E3, Nat.reduceAdd]
    rw [h7.ld0 3 _ (by omega), k3]
    try simp only [↓E1, ↓E2, ↓E3, Nat.reduceAdd]
    refine c_lonce hN (by omega) hinv.names h7 fun w8 h8 => ?_
    try simp only [Bool.not_true, ↓E1, ↓E2, ↓E3, Nat.reduceAdd]
    rw [h8.ld0 4 _ (by omega), k4]
    try simp only [↓E1, ↓E2, ↓E3, Nat.reduceAdd]
    refine c_lonce hSe (by omega) hinv.sels h8 fun w9 h9 => ?_
    try simp only [Bool.not_true, ↓E1, ↓E2, ↓E3, Nat.reduceAdd]
    rw [h9.ld0 1 _ (by omega), k1]
    try simp only [↓E1, ↓E2, ↓E3, Nat.reduceAdd]
    rw [decide_eq_false hlen0]
    try simp only [↓E1, ↓E2, ↓E3, Nat.reduceAdd]
    exact hq1 _ _ h9
  intro x4 w7 h7
  clear h6
  refine lp2 (fun q x y w' => ∃ i, x = i64 ((nB (m.units.take i) : Nat) : Int) ∧ y = i64 ((i : Nat) : Int) ∧ q = m.units.length - i ∧ i ≤ m.units.length ∧ Sat g4 w' ((b8, .cells cc.toArray Ty.ref10_Code) :: H)) m.units.length
    ⟨0, rfl, rfl, rfl, by omega, h7⟩ ?_
  rintro q x y w8 ⟨i, rfl, rfl, rfl, hi, h8⟩
  clear h7
  try simp only [↓E1, ↓E2, ↓E3, Nat.reduceAdd]
  rw [h8.ld0 1 _ (by omega), k1]
  try simp only [↓E1, ↓E2, ↓E3, Nat.reduceAdd]
  rw [cnd_dec]
  constructor
  · intro hli
    have hli : i < m.units.length := by omega
    obtain ⟨x, hx⟩ : ∃ x, m.units[i]? = some x := ⟨_, List.getElem?_eq_getElem hli⟩
    have hxl := insT_at hx
    have hnb : nB (m.units.take i) ≤ 1073741824 := by have := nB_le (m.units.take i); have := insT_take m.units i; omega
    refine lp2 (fun q z y w' => ∃ k, z = i64 ((nB (m.units.take i) + nBi (x.ins.take k) : Nat) : Int) ∧ y = i64 ((k : Nat) : Int) ∧ q = x.ins.length - k ∧ k ≤ x.ins.length ∧ Sat g4 w' ((b8, .cells cc.toArray Ty.ref10_Code) :: H)) x.ins.length
      ⟨0, rfl, rfl, rfl, by omega, h8⟩ ?_
    rintro q z y w9 ⟨k, rfl, rfl, rfl, hk, h9⟩
    clear h8
    try simp only [↓E1, ↓E2, ↓E3, Nat.reduceAdd]
    rw [h9.ld0 1 _ (by omega), k1]
    try simp only [↓E1, ↓E2, ↓E3, Nat.reduceAdd]
    refine hI.at hU hx h9 fun b o v hc0 hc1 hc2 hv => ?_
    try simp only [↓E1, ↓E2, ↓E3, Nat.reduceAdd]
    rw [h9.ldI hc2]
    obtain ⟨av, cpv, rfl, _, _, _⟩ := id hv
    try simp only [↓E1, ↓E2, ↓E3, Nat.reduceAdd]
    rw [cnd_dec]
    constructor
    · intro hlk
      have hlk : k < x.ins.length := by omega
      obtain ⟨y, hy⟩ : ∃ y, x.ins[k]? = some y := ⟨_, List.getElem?_eq_getElem hlk⟩
      have hnk := nBi_le (x.ins.take k)
      have hnk : nBi (x.ins.take k) ≤ k := by simp at hnk; omega
      have hstep : nBi (x.ins.take (k + 1)) = nBi (x.ins.take k) + (bif Nat.beq y.op 10 then 1 else 0) := by
        rw [List.take_add_one, hy, nBi_app]
        simp [nBi]
      try simp only [↓E1, ↓E2, ↓E3, Nat.reduceAdd]
      rw [h9.ld0 1 _ (by omega), k1]
      try simp only [↓E1, ↓E2, ↓E3, Nat.reduceAdd]
      refine hI.at hU hx h9 fun b' o' v' hc0' hc1' hc2' hv' => ?_
      try simp only [↓E1, ↓E2, ↓E3, Nat.reduceAdd]
      rw [h9.ldI hc2']
      try simp only [↓E1, ↓E2, ↓E3, Nat.reduceAdd]
      refine insAt hv' hy h9 fun bi oi hci => ?_
      try simp only [↓E1, ↓E2, ↓E3, Nat.reduceAdd]
      rw [h9.ldI (hci 0 (i64 (y.op : Int)) rfl)]
      try simp only [↓E1, ↓E2, ↓E3, Nat.reduceAdd]
      rw [show decide ((y.op : Int) = 10) = Nat.beq y.op 10 from dec_beq _ _]
      cases hb : Nat.beq y.op 10
      · rw [hb, cond_false] at hstep
        try simp only [↓E1, ↓E2, ↓E3, Nat.reduceAdd]
        rw [wrap64_succ (by omega)]
        exact ⟨x.ins.length - (k + 1), by omega, _, _, rfl, k + 1, by rw [hstep, Nat.add_zero], rfl, rfl, by omega, h9⟩
      · rw [hb, cond_true] at hstep
        try simp only [↓E1, ↓E2, ↓E3, Nat.reduceAdd]
        rw [wrap64_succ (by omega), wrap64_succ (by omega)]
        exact ⟨x.ins.length - (k + 1), by omega, _, _, rfl, k + 1, by rw [hstep, Nat.add_assoc], rfl, rfl, by omega, h9⟩
    · intro hge
      have hkl : k = x.ins.length := by omega
      subst hkl
      try simp only [↓E1, ↓E2, ↓E3, Nat.reduceAdd]
      rw [wrap64_succ (by omega)]
      refine ⟨m.units.length - (i + 1), by omega, _, _, rfl, i + 1, ?_, rfl, rfl, by omega, h9⟩
      rw [List.take_length, List.take_add_one, hx, nB_app]
      simp [nB]
  · intro hge
    have hil : i = m.units.length := by omega
    subst hil
    rw [List.take_length]
    refine h8.ldn0 (c := cc) gl.symm ?_
    try simp only [↓E1, ↓E2, ↓E3, Nat.reduceAdd]
    rw [h8.ld0 2 _ (by omega), k2]
    obtain ⟨aL, cL, rfl, _, _, _⟩ := id hL
    obtain ⟨aN, cN, rfl, _, _, _⟩ := id hN
    obtain ⟨aS, cS, rfl, _, _, _⟩ := id hSe
    try simp only [↓E1, ↓E2, ↓E3, Nat.reduceAdd]
    refine c_used (op := 0) (other := 0) hcv4 htot (by omega) (fun a ha => by simpa using hinv.ul a ha) h8 fun w9 h9 => ?_
    try simp only [↓E1, ↓E2, ↓E3, Nat.reduceAdd]
    refine h9.ldn0 (c := cc) gl.symm ?_
    try simp only [↓E1, ↓E2, ↓E3, Nat.reduceAdd]
    rw [h9.ld0 3 _ (by omega), k3]
    try simp only [↓E1, ↓E2, ↓E3, Nat.reduceAdd]
    refine c_used (op := 5) (other := 5) hcv4 htot (by omega) (fun a ha => by simpa using hinv.un a ha) h9 fun w10 h10 => ?_
    try simp only [↓E1, ↓E2, ↓E3, Nat.reduceAdd]
    refine h10.ldn0 (c := cc) gl.symm ?_
    try simp only [↓E1, ↓E2, ↓E3, Nat.reduceAdd]
    rw [h10.ld0 4 _ (by omega), k4]
    try simp only [↓E1, ↓E2, ↓E3, Nat.reduceAdd]
    refine c_used (op := 8) (other := 9) hcv4 htot (by omega) hinv.us h10 fun w11 h11 => ?_
    try simp only [↓E1, ↓E2, ↓E3, Nat.reduceAdd]
    rw [h11.ld0 1 _ (by omega), k1]
    try simp only [↓E1, ↓E2, ↓E3, Nat.reduceAdd]
    rw [wrap64_of (by omega) (by omega), decide_eq_true (by omega)]
    try simp only [↓E1, ↓E2, ↓E3, Nat.reduceAdd]
    refine c_known h11.tail fun g12 w12 hg12 h12 => ?_
    try simp only [↓E1, ↓E2, ↓E3, Nat.reduceAdd]
    exact hR g12 w12 (hg1.trans (hg4.trans hg12)) h12
end Go.Vx
namespace Go.Vx
open Go Go.Proofs
variable {R : Ending → World → Prop} {w : World} {H hp T : Hp}

theorem Tr.calls {P : Program} {g : FuncId} {args : List Value} (he : Enter P g) (h : Tr P g args w R) : Calls P g args.toArray w R := by
  rcases h with ⟨_, h⟩ | ⟨v, w', h, _⟩
  · exact h
  · rw [he.run] at h
    simp at h

/-- All that there is stays. -/
def gAll (w : World) : G := ⟨fun b => w.heap[b]?, w.os, w.tape, w.output⟩
theorem sat_all (w : World) : Sat (gAll w) w [] := ⟨rfl, rfl, rfl, fun _ _ h => h, fun _ _ h => by simp at h, by simp⟩
theorem sat_below {w' : World} {g : G} (hg : (gAll w).le g) (h : Sat g w' H) : RowKit.Below w.heap.size w w' := by
  have hb : ∀ k, k < w.heap.size → w'.heap[k]? = w.heap[k]? := fun k hk => by
    have e : w.heap[k]? = some w.heap[k] := Array.getElem?_eq_getElem hk
    rw [h.imm k _ (hg.imm k _ e), e]
  refine ⟨h.os.trans hg.os, h.tape.trans hg.tape, h.out.trans hg.out, ?_, hb⟩
  by_cases h0 : w.heap.size = 0
  · omega
  · have := hb (w.heap.size - 1) (by omega)
    rw [Array.getElem?_eq_getElem (by omega : w.heap.size - 1 < w.heap.size)] at this
    have := (Array.getElem?_eq_some_iff.1 this).1
    omega

theorem cell_gAll {a : Addr} {v : Value} (h : w.cell? a = some v) : a.spot = none ∧ (gAll w).cell? a.block a.off = some v := by
  unfold World.cell? at h
  unfold G.cell? gAll
  cases hb : w.heap[a.block]? with
  | none => rw [hb] at h; simp at h
  | some o =>
    rw [hb] at h
    cases o with
    | cells c t fr =>
      simp only [] at h ⊢
      split at h
      · simp at h
      · rename_i hs
        refine ⟨by simpa using hs, ?_⟩
        rw [hb]
        exact h
    | _ => simp at h

theorem strV (s : ByteArray) : Value.string s = str s.data.toList := by
  cases s
  simp [str]

/-- A list of texts among the arguments. -/
theorem arg_strs {P : Program} {Ht : Type} {enc : TypeId × Value → Ht} {t e : TypeId} {r : Reach} {b0 : Nat} {v : Value} {d : DataW Ht} {ps : List MemPlace} (ht : P.underlying t = some (.slice e)) (he : P.underlying e = some .string) (hc : P.cellsOf e = 1) (hby : P.bytesOf e = 16) (hwt : ∀ x ∈ d.weights P t, x ≤ reachBytes)
    (hval : Value.okWide P w r b0 t v) (hd : DataW.Trod enc P w 0 (fun _ => true) true t v d ps) : ∃ l : List (List UInt8), SS (gAll w) v l ∧ l.length ≤ 4611686018427387904 := by
  obtain ⟨a0, len, cap, rfl⟩ := WideShapes.okWide_slice ht hval
  obtain ⟨fuel, hf⟩ := hd
  rcases ChangeShapes.open_strings ht he hc hf with ⟨hcs, _⟩ | ⟨a, len', cap', ss, hcs, _, hl, hm, hz, hx, hcell, _⟩
  · simp only [Value.cells, List.cons.injEq, and_true] at hcs
    rw [hcs]
    exact ⟨[], Sl.nil _ 1, by simp⟩
  · simp only [Value.cells, List.cons.injEq, and_true] at hcs
    injection hcs with h1 h2 h3
    subst h1 h2 h3
    have hsp : a.spot = none := by
      simp only [Value.okWide, ht, Cell.okWide, Cell.ok] at hval
      exact hval.2.2.2.1
    have hlen : (ss.take len).length = len := by rw [List.length_take, hz]; simp; omega
    have hml : len * 16 ≤ reachBytes := by
      simp only [Prod.mk.injEq] at hx
      have := hwt
      rw [hx.1] at this
      simp only [DataW.weights, ht, List.mem_cons, forall_eq_or_imp, hby] at this
      have := this.1
      simp only [ChangeShapes.strs, List.length_map, hlen] at this
      omega
    have hrb : reachBytes ≤ 140737488355328 := by decide
    refine ⟨(ss.take len).map (·.data.toList), ?_, by rw [List.length_map, hlen]; omega⟩
    have hl2 : ((ss.take len).map (·.data.toList)).length = len := by rw [List.length_map, hlen]
    rw [SS, hl2]
    refine ⟨_, _, rfl, hl, by rw [List.length_map, hl2]; omega, .inr ⟨a.block, a.off, ?_, fun j x hx => ?_⟩⟩
    · obtain ⟨b, o, s⟩ := a
      simp only at hsp
      rw [hsp]
    · rw [List.map_map, List.getElem?_map] at hx
      obtain ⟨s, hs, rfl⟩ := Option.map_eq_some_iff.1 hx
      rw [List.getElem?_take] at hs
      split at hs
      · rename_i hj
        have hj2 := (List.getElem?_eq_some_iff.1 hs).1
        have hk := hcell j hj2
        rw [List.getD_eq_getElem?_getD, hs, Option.getD_some] at hk
        have := (cell_gAll hk).2
        rw [strV] at this
        unfold Addr.add at this
        split at this
        · rename_i h0
          rw [h0]
          exact this
        · exact this
      · simp at hs
end Go.Vx
