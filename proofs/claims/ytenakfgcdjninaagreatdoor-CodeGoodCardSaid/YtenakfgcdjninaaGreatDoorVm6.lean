/- Part 6 of the walk: a calculus of conditions over the model, and contracts of the functions of the program, in their plain form. No claim stands here. -/
import Derived.Test.YtenakfgcdjninaaGreatDoorVm5
import Derived.Lib.Bytealg
import Derived.Lib.MakeNoZero
set_option linter.unusedVariables false
set_option linter.unusedSimpArgs false
set_option linter.unusedSectionVars false
set_option linter.unnecessarySimpa false
namespace Go.Vx
open Go Go.Proofs
variable {R : Ending → World → Prop} {g : G} {w : World} {H hp T : Hp}

def useZ (l : List Use) : List Value := (l.map useC).flatten
theorem useZ_snoc (l : List Use) (u : Use) : useZ (l ++ [u]) = useZ l ++ useC u := by simp [useZ]
/-- What somebody who does not know a name leaves. -/
def stopS (p : Nat) : List PanicEntry := [{ v := .iface Ty.scope_stop (.agg #[i64 (p : Int)]), recovered := false }]

def unitU (slots : List (List UInt8)) : Node → List Fr → List Use → Except Nat (List Use)
  | .mk _ _ p n ns ks, fs, acc => bif namesOK [] ns then partsU slots ks (⟨ns, n⟩ :: fs) false true acc else .error p

/-- What comes of a part or a unit. -/
def OutU (g : G) (R : Ending → World → Prop) (wb : Nat) (sv : Value) (H : Hp) (n : Nat) (res : Except Nat (List Use)) : Prop :=
  (∀ acc', res = .ok acc' → ∀ g' lv' hp' w', g.le g' → acc'.length ≤ n → Grow Ty.scope_Use 6 lv' acc'.length (useZ acc') hp' → Sat g' w' ((wb, wlk sv lv') :: (hp' ++ H)) → R (.returned (.tuple #[])) w') ∧
  (∀ p, res = .error p → ∀ g' w', g.le g' → Sat g' w' H → R (.panicked (stopS p)) w')

def PartU (n : Node) : Prop := ∀ {g : G} {w : World} {H hp : Hp} {R : Ending → World → Prop} {wb : Nat} {sv lv fv : Value} {slots : List (List UInt8)} {fs : List Fr} {c : List Value} {to : Bool} {acc : List Use},
  SS g sv slots → slots.length ≤ 4611686018427387904 → FrR g fv fs → NodeR g c n → Grow Ty.scope_Use 6 lv acc.length (useZ acc) hp → acc.length + (fs.length + msr n) ≤ 1073741824 →
  Sat g w ((wb, wlk sv lv) :: (hp ++ H)) → OutU g R wb sv H (acc.length + msr n) (partU slots n fs to acc) → Tr P F.scope_walk_part [ptr wb 0, .agg c.toArray, fv, .bool to] w R

def UnitU (n : Node) : Prop := ∀ {g : G} {w : World} {H hp : Hp} {R : Ending → World → Prop} {wb : Nat} {sv lv fv : Value} {slots : List (List UInt8)} {fs : List Fr} {c : List Value} {acc : List Use},
  SS g sv slots → slots.length ≤ 4611686018427387904 → FrR g fv fs → NodeR g c n → Grow Ty.scope_Use 6 lv acc.length (useZ acc) hp → acc.length + (fs.length + msr n) ≤ 1073741824 →
  Sat g w ((wb, wlk sv lv) :: (hp ++ H)) → OutU g R wb sv H (acc.length + msr n) (unitU slots n fs acc) → Tr P F.scope_walk_unit [ptr wb 0, .agg c.toArray, fv] w R

theorem FrR.ptr {v : Value} {fs : List Fr} (h : FrR g v fs) : ∃ p, v = .pointer p := by cases h <;> exact ⟨_, rfl⟩

theorem KR.at {kv : Value} {ks : List Node} {kcs : List (List Value)} (hk : Sl g 6 kv ks.length kcs.flatten) (hr : KR g kcs ks) {i : Nat} {k : Node} (hi : ks[i]? = some k) (hS : Sat g w H) {K : Value → World → Prop}
    (hK : ∀ c, NodeR g c k → K (.agg c.toArray) w) : ia 6 kv (i64 (i : Int)) (fun t w => ldn 6 t K w) w := by
  have hlt := (List.getElem?_eq_some_iff.1 hi).1
  obtain ⟨c, hc⟩ : ∃ c, kcs[i]? = some c := ⟨_, List.getElem?_eq_getElem (by rw [hr.1]; exact hlt)⟩
  have hn := hr.2 i c k hc hi
  refine Sl.at hk hS hlt (by decide) fun b o hcell => ?_
  have hlen := hn.len
  have hcs : (kcs.flatten.drop (i * 6)).take 6 = c := by
    have key : ∀ (kcs : List (List Value)) (ks : List Node) (i : Nat), KR g kcs ks → kcs[i]? = some c → (kcs.flatten.drop (i * 6)).take 6 = c := by
      intro kcs
      induction kcs with
      | nil => intro ks i _ h; simp at h
      | cons a kcs ih =>
        intro ks i hr h
        cases ks with
        | nil => have := hr.1; simp at this
        | cons k0 ks =>
          have ha := (hr.2 0 a k0 rfl rfl).len
          cases i with
          | zero =>
            simp only [List.getElem?_cons_zero, Option.some.injEq] at h
            subst h
            simp only [Nat.zero_mul, List.drop_zero, List.flatten_cons]
            rw [← ha, List.take_left']
            rfl
          | succ i =>
            have := ih ks i ⟨by simpa using hr.1, fun j c' k' h1 h2 => hr.2 (j + 1) c' k' (by simpa using h1) (by simpa using h2)⟩ (by simpa using h)
            rw [List.flatten_cons, show (i + 1) * 6 = a.length + i * 6 from by rw [ha]; omega, ← List.drop_drop, List.drop_left']
            · exact this
            · rfl
    exact key kcs ks i hr hc
  rw [hcs] at hcell
  have := hS.ldnI (b := b) (o := o) (vs := c) (K := K) hcell (hK c hn)
  rw [hlen] at this
  exact this

theorem c_unitU {k p nn : Nat} {t : List UInt8} {ns : List (List UInt8)} {ks : List Node} (ih : ∀ x ∈ ks, PartU x) : UnitU (.mk k t p nn ns ks) := by
  intro g w H hp R wb sv lv fv slots fs c acc hsl hsn hf hn hgr hb hS hR
  apply t_scope_walk_unit
  unfold d_scope_walk_unit
  cases hn with
  | @mk _ _ _ _ _ _ nv kv kcs hnv hkv hkl hkr =>
  obtain ⟨pf, rfl⟩ := hf.ptr
  have hkr : KR g kcs ks := ⟨hkl, hkr⟩
  simp only [msr] at hb hR
  have hnl := len_nsM ns
  have hkl2 := len_msrs ks
  obtain ⟨na, nc, rfl, hnc, _, _⟩ := id hnv
  obtain ⟨ka, kc, rfl, hkc, _, _⟩ := id hkv
  obtain ⟨c, hcd⟩ : ∃ c, c = [i64 (k : Int), str t, i64 (p : Int), i64 (nn : Int), Value.slice na ns.length nc, Value.slice ka ks.length kc] := ⟨_, rfl⟩
  refine hS.al fun b4 w1 h1 => ?_
  have h1 : Sat g w1 ((b4, box c) :: (wb, wlk sv lv) :: (hp ++ H)) := by rw [hcd]; exact h1
  refine h1.ldn0 (c := c) (by rw [hcd]; rfl) ?_
  refine bdI (cs := c ++ [Value.pointer pf]) (by rw [hcd]; rfl) ?_
  refine h1.tail.al fun b16 w2 h2 => ?_
  have h2 : Sat g w2 ((b16, .cells (c ++ [Value.pointer pf]).toArray 144) :: (wb, wlk sv lv) :: (hp ++ H)) := h2
  obtain ⟨h3, hg3⟩ := h2.freeze
  generalize hg3d : g.add b16 (.cells (c ++ [Value.pointer pf]).toArray 144) = g3 at h3 hg3
  have cell : ∀ o v, (c ++ [Value.pointer pf])[o]? = some v → g3.cell? b16 o = some v := by
    intro o v h
    rw [← hg3d, add_cell]
    simpa using h
  have cl2 : g3.cell? b16 2 = some (i64 (p : Int)) := cell 2 _ (by rw [hcd]; rfl)
  have cl3 : g3.cell? b16 3 = some (i64 (nn : Int)) := cell 3 _ (by rw [hcd]; rfl)
  have cl4 : g3.cell? b16 4 = some (Value.slice na ns.length nc) := cell 4 _ (by rw [hcd]; rfl)
  have cl5 : g3.cell? b16 5 = some (Value.slice ka ks.length kc) := cell 5 _ (by rw [hcd]; rfl)
  have cl6 : g3.cell? b16 6 = some (Value.pointer pf) := cell 6 _ (by rw [hcd]; rfl)
  have hnv3 := hnv.mono hg3
  have hkv3 := hkv.mono hg3
  have hkr3 := hkr.mono hg3
  have hfr3 : FrR g3 (ptr b16 0) (⟨ns, nn⟩ :: fs) := .cons cl3 cl4 hnv3 (by omega) cl6 (hf.mono hg3)
  clear cell hg3d h2 h1
  try simp only [↓E1, ↓E2, ↓E3, Nat.reduceAdd]
  rw [h3.ldI cl4]
  try simp only [↓E1, ↓E2, ↓E3, Nat.reduceAdd]
  -- somebody does not know it
  have bad : ∀ w', Sat g3 w' ((wb, wlk sv lv) :: (hp ++ H)) → namesOK [] ns = false → ld (ptr b16 2) (fun t49 w => bd [.int .i64 0] [(0, 1, t49)] (fun t50 w => R (.panicked [{ v := .iface 104 t50, recovered := false }]) w) w) w' := by
    intro w' h hno
    rw [h.ldI cl2]
    refine bdI (cs := [i64 (p : Int)]) rfl ?_
    exact hR.2 p (by simp only [unitU, hno, cond_false]) g3 w' hg3 h.tail.drop
  refine lp1 (fun m x w' => ∃ i, x = i64 ((i : Nat) : Int) ∧ m = ns.length - i ∧ i ≤ ns.length ∧ namesOK (ns.take i) (ns.drop i) = namesOK [] ns ∧ Sat g3 w' ((wb, wlk sv lv) :: (hp ++ H))) ns.length
    ⟨0, rfl, rfl, by omega, rfl, h3⟩ ?_
  rintro m x w4 ⟨i, rfl, rfl, hi, hno, h4⟩
  try simp only [↓E1, ↓E2, ↓E3]
  rw [cnd_dec]
  constructor
  · intro hlt
    obtain ⟨t1, ht1⟩ : ∃ t1, ns[i]? = some t1 := ⟨_, List.getElem?_eq_getElem (by omega)⟩
    refine SS.cell hnv3 h4 ht1 fun bn on hbn => ?_
    rw [h4.ldI hbn]
    have hdr : ns.drop i = t1 :: ns.drop (i + 1) := by
      rw [List.drop_eq_getElem_cons (List.getElem?_eq_some_iff.1 ht1).1, (List.getElem?_eq_some_iff.1 ht1).2]
    have htk : ns.take i ++ [t1] = ns.take (i + 1) := by
      rw [List.take_add_one, ht1]; rfl
    rw [hdr] at hno
    simp only [namesOK, htk] at hno
    try simp only [↓E1, ↓E2, ↓E3]
    refine c_fixed h4 fun w5 h5 => ?_
    try simp only [↓E1, ↓E2, ↓E3]
    refine h5.al fun b9 w6 h6 => ?_
    have h6 : Sat g3 w6 ((b9, ubx use0) :: (wb, wlk sv lv) :: (hp ++ H)) := h6
    refine st_all (c := useC (fixU t1)) (c2 := useC use0) h6 rfl rfl rfl fun w7 h7 => ?_
    refine jnI ?_
    have next : ∀ w', Sat g3 w' ((wb, wlk sv lv) :: (hp ++ H)) → ((fixedS t1).isSome || (ns.take i).contains t1) = false → ∃ m', m' < ns.length - i ∧ ∃ y, [i64 (IntKind.i64.wrap ((i : Int) + 1))] = [y] ∧ ∃ i, y = i64 ((i : Nat) : Int) ∧ m' = ns.length - i ∧ i ≤ ns.length ∧ namesOK (ns.take i) (ns.drop i) = namesOK [] ns ∧ Sat g3 w' ((wb, wlk sv lv) :: (hp ++ H)) := by
      intro w' h hb
      rw [wrap64_succ (by omega)]
      rw [hb, Bool.not_false, Bool.true_and] at hno
      exact ⟨ns.length - (i + 1), by omega, _, rfl, i + 1, rfl, rfl, by omega, hno, h⟩
    rw [cnd_eq]
    constructor
    · intro hsome
      try simp only [↓E1, ↓E2, ↓E3, Nat.reduceAdd]
      refine bad w7 h7.tail ?_
      rw [hsome, Bool.true_or, Bool.not_true, Bool.false_and] at hno
      exact hno.symm
    · intro hnone
      try simp only [↓E1, ↓E2, ↓E3, Nat.reduceAdd]
      rw [h7.ldI cl4]
      refine slL_hi _ _ _ _ _ _ (by omega) (by omega) ?_
      try simp only [↓E1, ↓E2, ↓E3, Nat.reduceAdd]
      have hsub := Sl.take (k := i) hnv3 hi
      have hsub2 : SS g3 (Value.slice na i nc) (ns.take i) := by
        show Sl g3 1 _ (ns.take i).length _
        rw [List.length_take, Nat.min_eq_left hi]
        have : (ns.map str).take (i * 1) = (ns.take i).map str := by rw [Nat.mul_one, List.map_take]
        rw [← this]
        exact hsub
      rw [Int.toNat_natCast]
      refine c_contains hsub2 (by rw [List.length_take]; omega) h7 ?_
      try simp only [↓E1, ↓E2, ↓E3, Nat.reduceAdd]
      rw [cnd_eq]
      constructor
      · intro hcon
        refine bad w7 h7.tail ?_
        rw [hcon, Bool.or_true, Bool.not_true, Bool.false_and] at hno
        exact hno.symm
      · intro hcon
        exact next w7 h7.tail (by rw [hnone, hcon]; rfl)
  · intro hge
    have : i = ns.length := by omega
    subst this
    have hok : namesOK [] ns = true := by
      rw [← hno, List.drop_length]
      rfl
    have hun : unitU slots (.mk k t p nn ns ks) fs acc = partsU slots ks (⟨ns, nn⟩ :: fs) false true acc := by
      simp only [unitU, hok, cond_true]
    rw [hun] at hR
    try simp only [↓E1, ↓E2, ↓E3, Nat.reduceAdd]
    rw [h4.ldI cl5]
    try simp only [↓E1, ↓E2, ↓E3, Nat.reduceAdd]
    refine lp1 (fun m x w' => ∃ i g' lv' hp' acc' first, x = i64 ((i : Nat) : Int) ∧ m = ks.length - i ∧ i ≤ ks.length ∧ g3.le g' ∧ acc'.length + msrs (ks.drop i) ≤ acc.length + msrs ks ∧ Grow Ty.scope_Use 6 lv' acc'.length (useZ acc') hp' ∧
        partsU slots (ks.drop i) (⟨ns, nn⟩ :: fs) false first acc' = partsU slots ks (⟨ns, nn⟩ :: fs) false true acc ∧ Sat g' w' ((wb, wlk sv lv') :: (hp' ++ H))) ks.length
      ⟨0, g3, lv, hp, acc, true, rfl, rfl, by omega, .refl g3, Nat.le_refl _, hgr, rfl, h4⟩ ?_
    rintro m x w5 ⟨i, g5, lv5, hp5, acc5, first, rfl, rfl, hi5, hg5, hl5, hgr5, hpu, h5⟩
    try simp only [↓E1, ↓E2, ↓E3]
    rw [cnd_dec]
    constructor
    · intro hlt
      obtain ⟨x, hx⟩ : ∃ x, ks[i]? = some x := ⟨_, List.getElem?_eq_getElem (by omega)⟩
      have hxm : x ∈ ks := List.mem_of_getElem? hx
      refine (hkr3.mono hg5).at (hkv3.mono hg5) hx h5 fun c5 hc5 => ?_
      refine h5.al fun b12 w6 h6 => ?_
      refine st_box (c2 := zN) h6 hc5.len rfl hc5.one fun w7 h7 => ?_
      refine h7.ldn0 (c := c5) hc5.len.symm ?_
      have hdr : ks.drop i = x :: ks.drop (i + 1) := by
        rw [List.drop_eq_getElem_cons (List.getElem?_eq_some_iff.1 hx).1, (List.getElem?_eq_some_iff.1 hx).2]
      rw [hdr] at hpu hl5
      simp only [msrs] at hl5
      simp only [partsU, Bool.false_and] at hpu
      try simp only [↓E1, ↓E2, ↓E3]
      refine ih x hxm (hsl.mono (hg3.trans hg5)) hsn (hfr3.mono hg5) hc5 hgr5 (by simp only [List.length_cons]; omega) h7.tail ⟨fun acc6 he g6 lv6 hp6 w8 hg6 hl6 hgr6 h8 => ?_, fun q he g6 w8 hg6 h8 => ?_⟩
      · rw [he] at hpu
        simp only [] at hpu
        try simp only [↓E1, ↓E2, ↓E3]
        rw [wrap64_succ (by omega)]
        exact ⟨ks.length - (i + 1), by omega, _, rfl, i + 1, g6, lv6, hp6, acc6, false, rfl, rfl, by omega, hg5.trans hg6, by omega, hgr6, hpu, h8⟩
      · rw [he] at hpu
        simp only [] at hpu
        try simp only [↓E1, ↓E2, ↓E3]
        exact hR.2 q hpu.symm g6 w8 (hg3.trans (hg5.trans hg6)) h8
    · intro hge5
      have : i = ks.length := by omega
      subst this
      rw [List.drop_length] at hpu
      exact hR.1 acc5 hpu.symm g5 lv5 hp5 w5 (hg3.trans hg5) (by omega) hgr5 h5
end Go.Vx
namespace Go.Vx
open Go Go.Proofs
variable {R : Ending → World → Prop} {g : G} {w : World} {H hp T : Hp}

theorem fillU (u : Use) : fillV ((List.range (1 * (useC use0).length)).map (fun i => (useC use0).getD (i % (useC use0).length) undef)) [(0, 6, .agg (useC u).toArray)] = some (useC u) := rfl

/-- What is used is put behind what was. -/
theorem put_use {b8 wb : Nat} {sv lv : Value} {acc : List Use} {u : Use} (hgr : Grow Ty.scope_Use 6 lv acc.length (useZ acc) hp) (hn : acc.length ≤ 1073741824) (h : Sat g w ((b8, ubx u) :: (wb, wlk sv lv) :: (hp ++ H)))
    {K : World → Prop} (hk : ∀ lv' hp' w', Grow Ty.scope_Use 6 lv' (acc.length + 1) (useZ (acc ++ [u])) hp' → Sat g w' ((wb, wlk sv lv') :: (hp' ++ ((b8, ubx u) :: H))) → K w') :
    ld (ptr wb 1) (fun t49 w => ldn 6 (ptr b8 0) (fun t50 w => bs 146 [.int .i64 0, .string ⟨#[]⟩, .int .i64 0, .int .i64 0, .int .i64 0, .bool false] 1 [(0, 6, t50)] (fun t51 w =>
      rk false (ptr wb 1) t49 (ap 146 6 56 [.int .i64 0, .string ⟨#[]⟩, .int .i64 0, .int .i64 0, .int .i64 0, .bool false] t49 t51 (fun t52 w => st 1 (ptr wb 1) t52 K w) w) w) w) w) w := by
  rw [h.ld1 1 _ (by simp)]
  refine h.ldn0 (c := useC u) rfl ?_
  refine h.bs (cs := useC u) (fillU u) fun b51 w2 h2 => ?_
  refine h2.rk (b := wb) (t := Ty.scope_walk) (fr := (0, 0)) (c := [sv, lv]) (by simp) rfl ?_
  have h3 : Sat g w2 ((b51, .cells (useC u).toArray 146) :: (hp ++ ((b8, ubx u) :: (wb, wlk sv lv) :: H))) := h2.perm (.cons _ (List.perm_append_comm_assoc [_, _] hp _))
  refine h3.ap1 (m := 1) hgr rfl rfl rfl (by omega) (by omega) fun lv' hp' w4 hgr' h4 => ?_
  have h5 : Sat g w4 ((wb, wlk sv lv) :: (hp' ++ ((b8, ubx u) :: H))) := by
    have := Sat.front (A := hp' ++ [(b8, ubx u)]) (x := (wb, wlk sv lv)) (B := H) (by simpa using h4)
    simpa using this
  have hv : lv'.cells = #[lv'] ∧ one lv' = true := by obtain ⟨a, c, rfl⟩ := hgr'.slice; exact ⟨rfl, rfl⟩
  refine st_one h5 hv.1 hv.2 (by simp) fun w6 h6 => ?_
  refine hk lv' hp' w6 ?_ h6
  rw [useZ_snoc]
  exact hgr'

theorem findS_use {slots : List (List UInt8)} {t : List UInt8} {fs : List Fr} : (findS slots t fs).1.name = t := by
  unfold findS
  split
  · rfl
  · split
    · rfl
    · split <;> rfl

theorem partU_ok : ∀ n, PartU n := by
  refine Node.ind fun k t p nn ns ks ih => ?_
  intro g w H hp R wb sv lv fv slots fs c to acc hsl hsn hf hn hgr hb hS hR
  have hcu : UnitU (.mk k t p nn ns ks) := c_unitU (k := k) (p := p) (nn := nn) (t := t) (ns := ns) ih
  apply t_scope_walk_part
  unfold d_scope_walk_part
  have hn0 := hn
  cases hn with
  | @mk _ _ _ _ _ _ nv kv kcs hnv hkv hkl hkr =>
  have hkr : KR g kcs ks := ⟨hkl, hkr⟩
  have hb0 := hb
  simp only [msr] at hb hR
  have hkl2 := len_msrs ks
  obtain ⟨ka, kc, rfl, hkc, _, _⟩ := id hkv
  obtain ⟨c, hcd⟩ : ∃ c, c = [i64 (k : Int), str t, i64 (p : Int), i64 (nn : Int), nv, Value.slice ka ks.length kc] := ⟨_, rfl⟩
  rw [← hcd] at hn0 ⊢
  have hclen : c.length = 6 := by rw [hcd]; rfl
  have g0 : c.getD 0 undef = i64 (k : Int) := by rw [hcd]; rfl
  have g1 : c.getD 1 undef = str t := by rw [hcd]; rfl
  have g2 : c.getD 2 undef = i64 (p : Int) := by rw [hcd]; rfl
  have g5 : c.getD 5 undef = Value.slice ka ks.length kc := by rw [hcd]; rfl
  clear hcd
  refine hS.al fun b5 w1 h1 => ?_
  have h1 : Sat g w1 ((b5, box c) :: (wb, wlk sv lv) :: (hp ++ H)) := by
    have e : (Value.agg c.toArray).cells.toList = c := by simp [Value.cells]
    rw [e] at h1
    exact h1
  refine jn0 (fun w' => ∃ g' lv' hp' acc1, g.le g' ∧ Grow Ty.scope_Use 6 lv' acc1.length (useZ acc1) hp' ∧ acc1.length + msrs ks ≤ acc.length + (1 + t.length + nsM ns + msrs ks) ∧
      partsU slots ks fs (Nat.beq k 7 || Nat.beq k 8) true acc1 = partU slots (.mk k t p nn ns ks) fs to acc ∧ Sat g' w' ((b5, box c) :: (wb, wlk sv lv') :: (hp' ++ H))) ?_ ?_
  · rintro w2 ⟨g2', lv2, hp2, acc2, hg2, hgr2, hl2, hpu2, h2⟩
    try simp only [↓E1, ↓E2, ↓E3, Nat.reduceAdd]
    rw [h2.ld0 5 _ (by omega), g5]
    try simp only [↓E1, ↓E2, ↓E3, Nat.reduceAdd]
    have hkv2 := hkv.mono hg2
    have hkr2 := hkr.mono hg2
    refine lp1 (fun m x w' => ∃ i g' lv' hp' acc', x = i64 ((i : Nat) : Int) ∧ m = ks.length - i ∧ i ≤ ks.length ∧ g2'.le g' ∧ acc'.length + msrs (ks.drop i) ≤ acc2.length + msrs ks ∧ Grow Ty.scope_Use 6 lv' acc'.length (useZ acc') hp' ∧
        partsU slots (ks.drop i) fs (Nat.beq k 7 || Nat.beq k 8) (Nat.beq i 0) acc' = partsU slots ks fs (Nat.beq k 7 || Nat.beq k 8) true acc2 ∧ Sat g' w' ((b5, box c) :: (wb, wlk sv lv') :: (hp' ++ H))) ks.length
      ⟨0, g2', lv2, hp2, acc2, rfl, rfl, by omega, .refl g2', Nat.le_refl _, hgr2, rfl, h2⟩ ?_
    rintro m x w5 ⟨i, g5', lv5, hp5, acc5, rfl, rfl, hi5, hg5, hl5, hgr5, hpu, h5⟩
    try simp only [↓E1, ↓E2, ↓E3]
    rw [cnd_dec]
    constructor
    · intro hlt
      obtain ⟨x, hx⟩ : ∃ x, ks[i]? = some x := ⟨_, List.getElem?_eq_getElem (by omega)⟩
      have hxm : x ∈ ks := List.mem_of_getElem? hx
      refine (hkr2.mono hg5).at (hkv2.mono hg5) hx h5 fun c5 hc5 => ?_
      refine h5.al fun b12 w6 h6 => ?_
      refine st_box (c2 := zN) h6 hc5.len rfl hc5.one fun w7 h7 => ?_
      refine h7.ldn0 (c := c5) hc5.len.symm ?_
      have hdr : ks.drop i = x :: ks.drop (i + 1) := by
        rw [List.drop_eq_getElem_cons (List.getElem?_eq_some_iff.1 hx).1, (List.getElem?_eq_some_iff.1 hx).2]
      rw [hdr] at hpu hl5
      simp only [msrs] at hl5
      simp only [partsU] at hpu
      -- the call
      have call : ∀ q : Bool, q = ((Nat.beq k 7 || Nat.beq k 8) && Nat.beq i 0) → Tr P F.scope_walk_part [ptr wb 0, .agg c5.toArray, fv, .bool q] w7 (Vx.back (fun _ w => ∃ m', m' < ks.length - i ∧ ∃ y, [i64 (IntKind.i64.wrap ((i : Int) + 1))] = [y] ∧
          ∃ i g' lv' hp' acc', y = i64 ((i : Nat) : Int) ∧ m' = ks.length - i ∧ i ≤ ks.length ∧ g2'.le g' ∧ acc'.length + msrs (ks.drop i) ≤ acc2.length + msrs ks ∧ Grow Ty.scope_Use 6 lv' acc'.length (useZ acc') hp' ∧
            partsU slots (ks.drop i) fs (Nat.beq k 7 || Nat.beq k 8) (Nat.beq i 0) acc' = partsU slots ks fs (Nat.beq k 7 || Nat.beq k 8) true acc2 ∧ Sat g' w ((b5, box c) :: (wb, wlk sv lv') :: (hp' ++ H))) (fun ch w => R (.panicked ch) w)) := by
        intro q hq
        rw [← hq] at hpu
        have h8 : Sat g5' w7 ((wb, wlk sv lv5) :: (hp5 ++ ((b5, box c) :: H))) :=
          h7.tail.perm (List.perm_append_comm_assoc [_] ((wb, wlk sv lv5) :: hp5) H)
        refine ih x hxm (hsl.mono (hg2.trans hg5)) hsn (hf.mono (hg2.trans hg5)) hc5 hgr5 (by omega) h8 ⟨fun acc6 he g6 lv6 hp6 w8 hg6 hl6 hgr6 h8 => ?_, fun q' he g6 w8 hg6 h8 => ?_⟩
        · rw [he] at hpu
          simp only [] at hpu
          try simp only [↓E1, ↓E2, ↓E3]
          rw [wrap64_succ (by omega)]
          refine ⟨ks.length - (i + 1), by omega, _, rfl, i + 1, g6, lv6, hp6, acc6, rfl, rfl, by omega, hg5.trans hg6, by omega, hgr6, hpu, ?_⟩
          exact h8.perm (List.perm_append_comm_assoc ((wb, wlk sv lv6) :: hp6) [_] H)
        · rw [he] at hpu
          simp only [] at hpu
          try simp only [↓E1, ↓E2, ↓E3]
          exact hR.2 q' (by rw [← hpu2]; exact hpu.symm) g6 w8 (hg2.trans (hg5.trans hg6)) h8.tail
      try simp only [↓E1, ↓E2, ↓E3]
      rw [cnd_dec]
      constructor
      · intro hi0
        have : i = 0 := by omega
        subst this
        try simp only [↓E1, ↓E2, ↓E3, Nat.reduceAdd]
        rw [h7.ld1 0 _ (by omega), g0]
        try simp only [↓E1, ↓E2, ↓E3, Nat.reduceAdd]
        rw [cnd_dec]
        constructor
        · intro h7k
          have : k = 7 := by omega
          subst this
          exact call true rfl
        · intro h7k
          try simp only [↓E1, ↓E2, ↓E3, Nat.reduceAdd]
          rw [h7.ld1 0 _ (by omega), g0]
          try simp only [↓E1, ↓E2, ↓E3, Nat.reduceAdd]
          refine call _ ?_
          have e7 : Nat.beq k 7 = false := by
            cases hb : Nat.beq k 7 with
            | false => rfl
            | true => have := Nat.eq_of_beq_eq_true hb; omega
          rw [e7, Bool.eq_iff_iff]
          simp only [decide_eq_true_eq, Bool.false_or, Bool.and_eq_true]
          constructor
          · intro h; exact ⟨by have : k = 8 := by omega
                               rw [this]; rfl, rfl⟩
          · intro h; have := Nat.eq_of_beq_eq_true h.1; omega
      · intro hi0
        refine call false ?_
        have : Nat.beq i 0 = false := by
          cases hb : Nat.beq i 0 with
          | false => rfl
          | true => have := Nat.eq_of_beq_eq_true hb; omega
        rw [this, Bool.and_false]
    · intro hge5
      have : i = ks.length := by omega
      subst this
      rw [List.drop_length] at hpu
      simp only [partsU] at hpu
      exact hR.1 acc5 (by rw [← hpu2]; exact hpu.symm) g5' lv5 hp5 w5 (hg2.trans hg5) (by omega) hgr5 h5.tail
  · intro k1 hk1
    try simp only [↓E1, ↓E2, ↓E3, Nat.reduceAdd]
    rw [h1.ld0 0 _ (by omega), g0]
    try simp only [↓E1, ↓E2, ↓E3, Nat.reduceAdd]
    have ne : ∀ j : Nat, ¬ ((k : Int) = (j : Int)) → Nat.beq k j = false := by
      intro j h
      cases hb : Nat.beq k j with
      | false => rfl
      | true => exact absurd (by rw [Nat.eq_of_beq_eq_true hb]) h
    -- the use is put
    have hput : ∀ (b8 : Nat) (u : Use) (w' : World) (K : World → Prop), Sat g w' ((b8, ubx u) :: (wb, wlk sv lv) :: (b5, box c) :: (hp ++ H)) →
        (∀ lv' hp' w', Grow Ty.scope_Use 6 lv' (acc.length + 1) (useZ (acc ++ [u])) hp' → Sat g w' ((b5, box c) :: (wb, wlk sv lv') :: (hp' ++ H)) → K w') →
        ld (ptr wb 1) (fun t49 w => ldn 6 (ptr b8 0) (fun t50 w => bs 146 [.int .i64 0, .string ⟨#[]⟩, .int .i64 0, .int .i64 0, .int .i64 0, .bool false] 1 [(0, 6, t50)] (fun t51 w =>
          rk false (ptr wb 1) t49 (ap 146 6 56 [.int .i64 0, .string ⟨#[]⟩, .int .i64 0, .int .i64 0, .int .i64 0, .bool false] t49 t51 (fun t52 w => st 1 (ptr wb 1) t52 K w) w) w) w) w) w' := by
      intro b8 u w' K h hk
      have h' : Sat g w' ((b8, ubx u) :: (wb, wlk sv lv) :: (hp ++ ((b5, box c) :: H))) := h.perm (.cons _ (.cons _ (List.perm_append_comm_assoc [_] hp H)))
      refine put_use hgr (by omega) h' fun lv' hp' w2 hgr' h2 => hk lv' hp' w2 hgr' ?_
      have h3 := Sat.front (A := (wb, wlk sv lv') :: (hp' ++ [(b8, ubx u)])) (x := (b5, box c)) (B := H) (by simpa using h2)
      have h4 : Sat g w2 ((b5, box c) :: ((wb, wlk sv lv') :: hp') ++ (b8, ubx u) :: H) := by simpa using h3
      exact Sat.del h4
    rw [cnd_dec]
    constructor
    · intro hk5
      have : k = 5 := by omega
      subst this
      try simp only [↓E1, ↓E2, ↓E3, Nat.reduceAdd]
      rw [h1.ld0 1 _ (by omega), g1]
      try simp only [↓E1, ↓E2, ↓E3, Nat.reduceAdd]
      refine c_find hsl hsn hf (by omega) h1.swap2 fun w2 h2 => ?_
      have hpu : partU slots (.mk 5 t p nn ns ks) fs to acc = bif (findS slots t fs).1.kind == -1 || ((findS slots t fs).1.kind == 1 && !to) then .error p else .ok (acc ++ [{ (findS slots t fs).1 with pos := p }]) := by simp only [partU]; rfl
      rw [hpu] at hR
      generalize (findS slots t fs).1 = u at hR
      try simp only [↓E1, ↓E2, ↓E3]
      refine h2.al fun b8 w3 h3 => ?_
      refine st_all (c := useC u) (c2 := useC use0) h3 rfl rfl rfl fun w4 h4 => ?_
      have h4 : Sat g w4 ((b8, ubx u) :: (wb, wlk sv lv) :: (b5, box c) :: (hp ++ H)) := h4
      refine jn0 (fun w' => (u.kind == -1 || (u.kind == 1 && !to)) = false ∧ Sat g w' ((b8, ubx u) :: (wb, wlk sv lv) :: (b5, box c) :: (hp ++ H))) ?_ ?_
      · rintro w5 ⟨hb, h5⟩
        try simp only [↓E1, ↓E2, ↓E3, Nat.reduceAdd]
        rw [h5.ld2 2 _ (by omega), g2]
        refine st_one h5 rfl rfl (by simp [useC]) fun w6 h6 => ?_
        have h6 : Sat g w6 ((b8, ubx { u with pos := p }) :: (wb, wlk sv lv) :: (b5, box c) :: (hp ++ H)) := h6
        try simp only [↓E1, ↓E2, ↓E3, Nat.reduceAdd]
        refine hput b8 _ w6.drew _ h6.drew fun lv' hp' w7 hgr' h7 => ?_
        exact hR.1 _ (by rw [hb]; rfl) g lv' hp' w7 (.refl g) (by simp; omega) (by simpa using hgr') h7.tail
      · intro k3 hk3
        refine jn1 (fun x w' => x = .bool (u.kind == -1 || (u.kind == 1 && !to)) ∧ w' = w4) ?_ ?_
        · rintro x w5 ⟨rfl, rfl⟩
          rw [cnd_eq]
          constructor
          · intro hb
            try simp only [↓E1, ↓E2, ↓E3, Nat.reduceAdd]
            rw [h4.ld2 2 _ (by omega), g2]
            refine bdI (cs := [i64 (p : Int)]) rfl ?_
            try simp only [↓E2]
            exact hR.2 p (by rw [hb]; rfl) g _ (.refl g) h4.tail.tail.tail.drop
          · intro hb
            try simp only [↓E3]
            exact hk3 _ ⟨hb, h4⟩
        · intro k4 hk4
          try simp only [↓E1, ↓E2, ↓E3, Nat.reduceAdd]
          rw [h4.ld0 2 _ (by simp [useC])]
          have e2 : (useC u).getD 2 undef = i64 u.kind := rfl
          rw [e2]
          try simp only [↓E1, ↓E2, ↓E3, Nat.reduceAdd]
          rw [cnd_dec]
          constructor
          · intro h
            refine hk4 _ _ ⟨?_, rfl⟩
            rw [h]; rfl
          · intro h
            have e0 : (u.kind == -1) = false := beq_eq_false_iff_ne.2 h
            rw [h4.ld0 2 _ (by simp [useC]), e2]
            try simp only [↓E1, ↓E2, ↓E3, Nat.reduceAdd]
            rw [cnd_dec]
            constructor
            · intro h1'
              refine hk4 _ _ ⟨?_, rfl⟩
              rw [e0, h1']; rfl
            · intro h1'
              have e1 : (u.kind == 1) = false := beq_eq_false_iff_ne.2 h1'
              refine hk4 _ _ ⟨?_, rfl⟩
              rw [e0, e1]; rfl
    intro hk5
    have n5 := ne 5 hk5
    try simp only [↓E1, ↓E2, ↓E3, Nat.reduceAdd]
    rw [cnd_dec]
    constructor
    · intro hk6
      have : k = 6 := by omega
      subst this
      try simp only [↓E1, ↓E2, ↓E3, Nat.reduceAdd]
      rw [h1.ld0 1 _ (by omega), g1]
      try simp only [↓E1, ↓E2, ↓E3, Nat.reduceAdd]
      refine c_find hsl hsn hf (by omega) h1.swap2 fun w2 h2 => ?_
      have hpu : partU slots (.mk 6 t p nn ns ks) fs to acc = bif (findS slots t fs).2 || ((findS slots t fs).1.kind != 3 && (findS slots t fs).1.kind != 4) then .error p else partsU slots ks fs false true (acc ++ [{ (findS slots t fs).1 with pos := p, write := true }]) := by simp only [partU]; rfl
      rw [hpu] at hR hk1
      generalize (findS slots t fs).1 = u at hR hk1
      generalize (findS slots t fs).2 = ar at hR hk1
      try simp only [↓E1, ↓E2, ↓E3]
      refine h2.al fun b8 w3 h3 => ?_
      refine st_all (c := useC u) (c2 := useC use0) h3 rfl rfl rfl fun w4 h4 => ?_
      have h4 : Sat g w4 ((b8, ubx u) :: (wb, wlk sv lv) :: (b5, box c) :: (hp ++ H)) := h4
      refine jn0 (fun w' => (ar || (u.kind != 3 && u.kind != 4)) = false ∧ Sat g w' ((b8, ubx u) :: (wb, wlk sv lv) :: (b5, box c) :: (hp ++ H))) ?_ ?_
      · rintro w5 ⟨hb, h5⟩
        try simp only [↓E1, ↓E2, ↓E3, Nat.reduceAdd]
        rw [h5.ld2 2 _ (by omega), g2]
        refine st_one h5 rfl rfl (by simp [useC]) fun w6 h6 => ?_
        refine st_one h6 rfl rfl (by simp [useC]) fun w7 h7 => ?_
        have h7 : Sat g w7 ((b8, ubx { u with pos := p, write := true }) :: (wb, wlk sv lv) :: (b5, box c) :: (hp ++ H)) := h7
        try simp only [↓E1, ↓E2, ↓E3, Nat.reduceAdd]
        refine hput b8 _ w7.drew _ h7.drew fun lv' hp' w8 hgr' h8 => ?_
        refine hk1 _ ⟨g, lv', hp', acc ++ [{ u with pos := p, write := true }], .refl g, by simpa using hgr', by simp; omega, ?_, h8⟩
        rw [hb]
        rfl
      · intro k3 hk3
        refine jn1 (fun x w' => x = .bool (ar || (u.kind != 3 && u.kind != 4)) ∧ w' = w4) ?_ ?_
        · rintro x w5 ⟨rfl, rfl⟩
          rw [cnd_eq]
          constructor
          · intro hb
            try simp only [↓E1, ↓E2, ↓E3, Nat.reduceAdd]
            rw [h4.ld2 2 _ (by omega), g2]
            refine bdI (cs := [i64 (p : Int)]) rfl ?_
            try simp only [↓E2]
            exact hR.2 p (by rw [hb]; rfl) g _ (.refl g) h4.tail.tail.tail.drop
          · intro hb
            try simp only [↓E3]
            exact hk3 _ ⟨hb, h4⟩
        · intro k4 hk4
          rw [cnd_eq]
          constructor
          · rintro rfl
            try simp only [↓E1, ↓E2, ↓E3, Nat.reduceAdd]
            exact hk4 _ _ ⟨rfl, rfl⟩
          rintro rfl
          try simp only [↓E1, ↓E2, ↓E3, Nat.reduceAdd]
          rw [h4.ld0 2 _ (by simp [useC])]
          have e2 : (useC u).getD 2 undef = i64 u.kind := rfl
          rw [e2]
          try simp only [↓E1, ↓E2, ↓E3, Nat.reduceAdd]
          rw [cnd_ndec]
          constructor
          · intro h
            have e0 : (u.kind != 3) = true := by simpa using h
            rw [h4.ld0 2 _ (by simp [useC]), e2]
            try simp only [↓E1, ↓E2, ↓E3, Nat.reduceAdd]
            refine hk4 _ _ ⟨?_, rfl⟩
            rw [e0, Bool.false_or, Bool.true_and]
            congr 1
          · intro h
            have e0 : (u.kind != 3) = false := by rw [h]; rfl
            refine hk4 _ _ ⟨?_, rfl⟩
            rw [e0]; rfl
    intro hk6
    have n6 := ne 6 hk6
    try simp only [↓E1, ↓E2, ↓E3, Nat.reduceAdd]
    rw [cnd_dec]
    constructor
    · intro hk10
      have : k = 10 := by omega
      subst this
      try simp only [↓E1, ↓E2, ↓E3, Nat.reduceAdd]
      refine h1.ldn0 (c := c) hclen.symm ?_
      have hpu : partU slots (.mk 10 t p nn ns ks) fs to acc = unitU slots (.mk 10 t p nn ns ks) fs acc := by simp only [partU, unitU]; rfl
      rw [hpu] at hR
      try simp only [↓E1, ↓E2, ↓E3, Nat.reduceAdd]
      have h2 : Sat g w1 ((wb, wlk sv lv) :: (hp ++ ((b5, box c) :: H))) := h1.perm (List.perm_append_comm_assoc [_] ((wb, wlk sv lv) :: hp) H)
      refine hcu hsl hsn hf hn0 hgr hb0 h2 ⟨fun acc' he g' lv' hp' w' hg' hl' hgr' h' => ?_, fun q he g' w' hg' h' => ?_⟩
      · try simp only [↓E1, ↓E2, ↓E3, Nat.reduceAdd]
        simp only [msr] at hl'
        refine hR.1 acc' he g' lv' hp' w' hg' hl' hgr' ?_
        exact (Sat.del (A := (wb, wlk sv lv') :: hp') h')
      · try simp only [↓E1, ↓E2, ↓E3, Nat.reduceAdd]
        exact hR.2 q he g' w' hg' h'.tail
    intro hk10
    have n10 := ne 10 hk10
    try simp only [↓E1, ↓E2, ↓E3, Nat.reduceAdd]
    refine hk1 _ ⟨g, lv, hp, acc, .refl g, hgr, by omega, ?_, h1⟩
    simp only [partU, n5, n6, n10, cond_false]
end Go.Vx
namespace Go.Vx
open Go Go.Proofs
variable {R : Ending → World → Prop} {g : G} {w : World} {H hp T : Hp}

theorem c_Resolve_1_nil {a0 a1 a2 : Value} {R : Ending → FrameMode → World → Prop} (hR : R (.returned (.tuple #[])) .returning w) : CallsD P F.scope_Resolve_1 #[a0, a1, a2] .returning w R := by
  apply t_scope_Resolve_1
  unfold d_scope_Resolve_1
  refine ⟨.bool true, fun w' => run_eq_nil_nil Tryz.underlying20 _ _ w', ?_⟩
  simp only [↓E3]
  exact hR

theorem c_Resolve_1_stop {b4 b5 b6 : Nat} {x y z : Value} {q : Nat} {R : Ending → FrameMode → World → Prop} (hS : Sat g w ((b4, .cells [z].toArray 73) :: (b5, .cells [x].toArray 3) :: (b6, .cells [y].toArray 26) :: H))
    (hR : ∀ w', Sat g w' ((b4, .cells [.slice none 0 0].toArray 73) :: (b5, .cells [i64 (q : Int)].toArray 3) :: (b6, .cells [i64 21].toArray 26) :: H) → R (.returned (.tuple #[])) (.panicking [{ v := .iface Ty.scope_stop (.agg #[i64 (q : Int)]), recovered := true }]) w') :
    CallsD P F.scope_Resolve_1 #[ptr b4 0, ptr b5 0, ptr b6 0] (.panicking (stopS q)) w R := by
  apply t_scope_Resolve_1
  unfold d_scope_Resolve_1
  have e1 : (recV (.panicking (stopS q))).1 = .iface Ty.scope_stop (.agg #[i64 (q : Int)]) := rfl
  have e2 : (recV (.panicking (stopS q))).2 = .panicking [{ v := .iface Ty.scope_stop (.agg #[i64 (q : Int)]), recovered := true }] := rfl
  rw [e1, e2]
  refine ⟨.bool false, fun w' => run_eq_held_nil Tryz.underlying20 _ _ w', ?_⟩
  simp only [↓E3]
  refine ⟨_, fun w' => run_assert_struct Tryz.underlying104 w', ?_⟩
  simp only [↓E1, ↓E2, ↓E3]
  refine hS.al fun b w1 h1 => ?_
  refine st_all (c := [i64 (q : Int)]) (c2 := [i64 0]) h1 rfl rfl rfl fun w2 h2 => ?_
  have h3 := h2.drew
  try simp only [↓E1, ↓E2, ↓E3, Nat.reduceAdd]
  rw [h3.ld0 0 _ (by simp)]
  try simp only [↓E1, ↓E2, ↓E3, Nat.reduceAdd]
  refine st_one h3.swap2 rfl rfl (by simp) fun w4 h4 => ?_
  have h4 := h4.swap2
  refine h4.rk (b := b) (t := 104) (fr := (0, 0)) (c := [i64 (q : Int)]) (by simp) rfl ?_
  have h5 := Sat.front (A := [(b, _), (b4, _)]) h4
  refine st_one h5 rfl rfl (by simp) fun w6 h6 => ?_
  have h7 := Sat.front (A := [(b5, _), (b, _), (b4, _)]) h6
  refine st_one h7 rfl rfl (by simp) fun w8 h8 => ?_
  have h9 := Sat.del (A := [(b6, _), (b5, _)]) h8
  have h10 := Sat.front (A := [(b6, _), (b5, _)]) h9
  exact hR w8 (h10.perm (.cons _ (List.Perm.swap _ _ _)))

theorem resolve_unit (slots : List (List UInt8)) (n : Node) : resolveS slots n = unitU slots n [] [] := by cases n; rfl

theorem c_Resolve {c : List Value} {n : Node} {sv : Value} {slots : List (List UInt8)} (hn : NodeR g c n) (hsl : SS g sv slots) (hsn : slots.length ≤ 4611686018427387904) (hm : msr n ≤ 1073741824) (hS : Sat g w H)
    (hok : ∀ l g' lv w', resolveS slots n = .ok l → g.le g' → Sl g' 6 lv l.length (useZ l) → l.length ≤ msr n → Sat g' w' H → R (.returned (.tuple #[lv, i64 0, i64 0])) w')
    (herr : ∀ p g' w', resolveS slots n = .error p → g.le g' → Sat g' w' H → R (.returned (.tuple #[.slice none 0 0, i64 ((p : Nat) : Int), i64 21])) w') : Tr P F.scope_Resolve [.agg c.toArray, sv] w R := by
  rw [resolve_unit] at hok herr
  apply t_scope_Resolve
  unfold d_scope_Resolve
  have hcl := hn.len
  have e : (Value.agg c.toArray).cells.toList = c := by simp [Value.cells]
  rw [e]
  refine hS.al fun b2 w1 h1 => h1.al fun b4 w2 h2 => h2.al fun b5 w3 h3 => h3.al fun b6 w4 h4 => ?_
  have h4 : Sat g w4 ((b6, .cells [i64 0].toArray 26) :: (b5, .cells [i64 0].toArray 3) :: (b4, .cells [.slice none 0 0].toArray 73) :: (b2, box c) :: H) := h4
  refine ⟨_, _, _, rfl, ?_⟩
  obtain ⟨sa, sc, rfl, _, _, _⟩ := id hsl
  refine bdI (cs := [.slice sa slots.length sc, .slice none 0 0]) rfl ?_
  refine h4.al fun b11 w5 h5 => ?_
  have h5 : Sat g w5 ((b11, wlk (.slice sa slots.length sc) (.slice none 0 0)) :: (b6, .cells [i64 0].toArray 26) :: (b5, .cells [i64 0].toArray 3) :: (b4, .cells [.slice none 0 0].toArray 73) :: (b2, box c) :: H) := h5
  refine h5.ldnH (b := b2) (c := c) (t := Ty.tree_Node) (fr := (0, 0)) (by simp) 6 0 (by omega) ?_
  rw [List.drop_zero, List.take_of_length_le (by omega)]
  simp only [↓E2, List.append_nil, List.nil_append]
  have settleR : ∀ (q : Nat) (g2 : G) (w' : World), unitU slots n [] [] = .error q → g.le g2 → Sat g2 w' ((b6, .cells [i64 0].toArray 26) :: (b5, .cells [i64 0].toArray 3) :: (b4, .cells [.slice none 0 0].toArray 73) :: (b2, box c) :: H) →
      dl P { target := .fn (.func F.scope_Resolve_1) #[ptr b4 0, ptr b5 0, ptr b6 0], args := #[] ++ ([] : List Value).toArray } (.panicking (stopS q)) (fun w => ld (ptr b4 0) (fun r0 w => ld (ptr b5 0) (fun r1 w => ld (ptr b6 0) (fun r2 w => R (.returned (.tuple #[r0, r1, r2])) w) w) w) w) (fun ch w => R (.panicked ch) w) w' := by
    intro q g2 w' he hg h
    refine ⟨_, _, rfl, n_scope_Resolve_1, ?_⟩
    have h' : Sat g2 w' ((b4, .cells [.slice none 0 0].toArray 73) :: (b5, .cells [i64 0].toArray 3) :: (b6, .cells [i64 0].toArray 26) :: (b2, box c) :: H) :=
      (Sat.front (A := [(b6, _), (b5, _)]) h).perm (.cons _ (List.Perm.swap _ _ _))
    refine c_Resolve_1_stop h' fun w13 h13 => ?_
    simp only [settle_rec, backD]
    rw [h13.ld0 0 _ (by simp), h13.ld1 0 _ (by simp), h13.ld2 0 _ (by simp)]
    exact herr q g2 w13 he hg (h13.tail.tail.tail.tail)
  have hun : UnitU n := by cases n; exact c_unitU fun x _ => partU_ok x
  refine hun (hp := []) (acc := []) (fs := []) hsl hsn .nil hn .nil (by simp; omega) h5 ⟨fun l he g' lv' hp' w' hg' hl' hgr' h' => ?_, fun q he g' w' hg' h' => ?_⟩
  · try simp only [↓E1, ↓E2, ↓E3, Nat.reduceAdd]
    rw [h'.ld0 1 _ (by simp)]
    try simp only [↓E1, ↓E2, ↓E3, Nat.reduceAdd]
    have h6 := h'.tail
    obtain ⟨g2, hg2, h7, hSl⟩ := hgr'.freeze h6
    have hv : lv'.cells = #[lv'] ∧ one lv' = true := by obtain ⟨a, c, rfl⟩ := hgr'.slice; exact ⟨rfl, rfl⟩
    have h8 := Sat.front (A := [(b6, _), (b5, _)]) h7
    refine st_one h8 hv.1 hv.2 (by simp) fun w8 h8 => ?_
    have h9 := Sat.front (A := [(b4, _), (b6, _)]) h8
    refine st_one h9 rfl rfl (by simp) fun w9 h9 => ?_
    have h10 := Sat.front (A := [(b5, _), (b4, _)]) h9
    refine st_one h10 rfl rfl (by simp) fun w10 h10 => ?_
    refine ⟨_, _, rfl, n_scope_Resolve_1, ?_⟩
    refine c_Resolve_1_nil ?_
    simp only [settle_ret, backD]
    rw [h10.ld2 0 _ (by simp), h10.ld1 0 _ (by simp), h10.ld0 0 _ (by simp)]
    simp only [List.length_nil, Nat.zero_add] at hl'
    exact hok l g2 lv' w10 he (hg'.trans hg2) hSl hl' (h10.tail.tail.tail.tail)
  · try simp only [↓E1, ↓E2, ↓E3, Nat.reduceAdd]
    exact settleR q g' w' he hg' h'
end Go.Vx
namespace Go.Vx

/-! ### Literals as texts -/
def quoteS (t : List UInt8) : List UInt8 := 39 :: (t.flatMap fun c => bif c == 39 then [39, 39] else [c]) ++ [39]
def plainSymS (t : List UInt8) : Bool := bif t.isEmpty || t.headD 0 == 39 then false else (symbolS t 0).1.2 && (symbolS t 0).1.1 == t
mutual
/-- A literal's text. -/
def litS : Node → List UInt8
  | .mk k t _ _ _ ks => bif Nat.beq k 2 then quoteS t else bif Nat.beq k 3 then 35 :: (bif plainSymS t then t else quoteS t) else bif Nat.beq k 4 then 35 :: 40 :: (litsS ks true ++ [41]) else t
def litsS : List Node → Bool → List UInt8
  | [], _ => []
  | k :: ks, first => (bif first then [] else [32]) ++ (litS k ++ litsS ks false)
end

/-! ### Steps -/
structure Ins where
  op : Nat
  a : Nat
  b : Nat
  deriving DecidableEq
structure CU where
  args : Nat
  names : Nat
  ins : List Ins
structure MK where
  units : List CU
  lits : List (List UInt8)
  names : List (List UInt8)
  sels : List (List UInt8)
  uses : List Use

def useO : Use := ⟨0, [], 0, 0, 0, false⟩
def onceS (l : List (List UInt8)) (t : List UInt8) : List (List UInt8) × Nat := match idxT t l 0 with
  | some k => (l, k)
  | none => (l ++ [t], l.length)
def modU : List CU → Nat → Ins → List CU
  | [], _, _ => []
  | x :: l, 0, i => ⟨x.args, x.names, x.ins ++ [i]⟩ :: l
  | x :: l, u + 1, i => x :: modU l u i
def addI (m : MK) (u : Nat) (i : Ins) : MK := { m with units := modU m.units u i }
def popU (m : MK) : MK := { m with uses := m.uses.tail }
def useH (m : MK) : Use := m.uses.headD useO
def nameC (u : Nat) (m0 : MK) : MK :=
  let x := useH m0
  let m := popU m0
  bif x.kind == 2 then addI m u ⟨7, x.index, 0⟩
  else bif x.kind == 3 then addI m u ⟨1, x.depth, x.index⟩
  else bif x.kind == 4 then addI m u ⟨3, x.index, 0⟩
  else bif x.kind == 5 then addI { m with names := (onceS m.names x.name).1 } u ⟨5, (onceS m.names x.name).2, 0⟩
  else addI m u ⟨6, 0, 0⟩
def sendC (u : Nat) (sup : Bool) (sel : List UInt8) (nargs : Nat) (m : MK) : MK :=
  addI { m with sels := (onceS m.sels sel).1 } u ⟨bif sup then 9 else 8, (onceS m.sels sel).2, nargs⟩
def isSuper (n : Node) : Bool := Nat.beq n.kind 5 && n.text == superT
def superH : List Node → Bool
  | [] => false
  | k :: _ => isSuper k
/-- A unit's steps: how its statements' are made is given. -/
def unitOf (k : Nat) (t : List UInt8) (n names kids : Nat) (st : Nat → MK → MK × Bool) (m : MK) : MK :=
  let u := m.units.length
  let r := st u { m with units := m.units ++ [⟨n, names, []⟩] }
  bif r.2 then r.1
  else bif Nat.beq k 12 && !t.isEmpty then addI (addI (bif Nat.beq kids 0 then r.1 else addI r.1 u ⟨12, 0, 0⟩) u ⟨6, 0, 0⟩) u ⟨14, 0, 0⟩
  else addI (bif Nat.beq kids 0 then addI r.1 u ⟨7, 0, 0⟩ else r.1) u ⟨13, 0, 0⟩
mutual
def partC : Node → Nat → MK → MK
  | .mk k t p n ns ks, u, m =>
    bif Nat.beq k 1 || (Nat.beq k 2 || (Nat.beq k 3 || Nat.beq k 4)) then
      addI { m with lits := (onceS m.lits (litS (.mk k t p n ns ks))).1 } u ⟨0, (onceS m.lits (litS (.mk k t p n ns ks))).2, 0⟩
    else bif Nat.beq k 5 then nameC u m
    else bif Nat.beq k 6 then
      let x := useH m
      let m1 := headC ks u (popU m)
      bif x.kind == 3 then addI m1 u ⟨2, x.depth, x.index⟩ else addI m1 u ⟨4, x.index, 0⟩
    else bif Nat.beq k 7 then sendC u (superH ks) t (ks.length - 1) (partsC ks u m)
    else bif Nat.beq k 8 then cascT ks u m
    else bif Nat.beq k 10 then unitOf k t n ns.length ks.length (fun u' m' => stmtsC ks u' true m') (addI m u ⟨10, m.units.length, 0⟩)
    else m
def headC : List Node → Nat → MK → MK
  | [], _, m => m
  | k :: _, u, m => partC k u m
def partsC : List Node → Nat → MK → MK
  | [], _, m => m
  | k :: ks, u, m => partsC ks u (partC k u m)
def msgC : Node → Nat → Bool → MK → MK
  | .mk _ t _ _ _ ks, u, sup, m => sendC u sup t ks.length (partsC ks u m)
def cascC : List Node → Nat → Bool → MK → MK
  | [], _, _, m => m
  | k :: ks, u, sup, m => bif ks.isEmpty then msgC k u sup m else cascC ks u sup (addI (msgC k u sup (addI m u ⟨11, 0, 0⟩)) u ⟨12, 0, 0⟩)
def cascT : List Node → Nat → MK → MK
  | [], _, m => m
  | r :: ms, u, m => cascC ms u (isSuper r) (partC r u m)
def retC : Node → Nat → MK → MK
  | .mk _ _ _ _ _ ks, u, m => headC ks u m
def stmtsC : List Node → Nat → Bool → MK → MK × Bool
  | [], _, _, m => (m, false)
  | k :: ks, u, first, m =>
    let m1 := bif first then m else addI m u ⟨12, 0, 0⟩
    bif Nat.beq k.kind 11 then (addI (retC k u m1) u ⟨14, 0, 0⟩, true) else stmtsC ks u false (partC k u m1)
end
def unitC : Node → MK → MK
  | .mk k t _ n ns ks, m => unitOf k t n ns.length ks.length (fun u' m' => stmtsC ks u' true m') m
def makeS (slots : List (List UInt8)) (n : Node) : Except Nat MK := match resolveS slots n with
  | .error p => .error p
  | .ok l => .ok (unitC n ⟨[], [], [], [], l⟩)
/-- A source as steps: its pattern, the steps. -/
def codeS (slots : List (List UInt8)) (r : Except (Nat × Nat) Node) : Except (Nat × Nat) (List UInt8 × MK) := match r with
  | .error x => .error x
  | .ok n => match makeS slots n with
    | .error p => .error (p, 21)
    | .ok m => .ok (n.text, m)
def compileS (slots : List (List UInt8)) (s : List UInt8) : Except (Nat × Nat) (List UInt8 × MK) := codeS slots (parseS s)
end Go.Vx
namespace Go.Vx
open Go Go.Proofs
variable {R : Ending → World → Prop} {g : G} {w : World} {H hp T : Hp}

theorem c_count {s : List UInt8} {c : UInt8} (hR : R (.returned (i64 ((s.count c : Nat) : Int))) w) : Tr P F.internal_bytealg_CountString [str s, byt c] w R := by
  refine tr_extern (e := Extern.BytealgCount.count) Tryz.func204 (by kernel_rfl) (by kernel_rfl) (by kernel_rfl) (by kernel_rfl) (Lib.run_countString _ _ _) ?_
  have e : ((c.toNat : Int)).toNat.toUInt8 = c := by simp
  rw [e]
  exact hR

theorem c_index1 {s : List UInt8} {c : UInt8} (hR : R (.returned (i64 (idxI (idx c s)))) w) : Tr P F.strings_Index [str s, str [c]] w R := by
  apply t_strings_Index
  unfold d_strings_Index
  try simp only [↓E2]
  apply t_internal_stringslite_Index
  unfold d_internal_stringslite_Index
  try simp only [↓E2]
  refine jnI ?_
  refine jn1 (fun x w' => x = .bool (decide (s = [c])) ∧ w' = w) ?_ ?_
  · rintro x w' ⟨rfl, rfl⟩
    rw [cnd_dec]
    constructor
    · rintro rfl
      have e : idxI (idx c [c]) = 0 := by simp [idx, idxGo, idxI]
      rw [e] at hR
      exact hR
    · intro _
      have e1 : (([c] : List UInt8).length : Int) = 1 := rfl
      rw [e1]
      try simp only [↓E1, ↓E2, ↓E3, decide_true]
      refine ⟨by omega, c, rfl, ?_⟩
      try simp only [↓E1, ↓E2, ↓E3]
      refine c_liteIndexByte ?_
      try simp only [↓E3]
      exact hR
  · intro k7 hk7
    have e1 : (([c] : List UInt8).length : Int) = 1 := rfl
    rw [e1]
    have e0 : decide ((1 : Int) = 0) = false := rfl
    try simp only [↓E1, ↓E2, ↓E3, e0]
    refine hk7 _ _ ⟨?_, rfl⟩
    congr 1
    rw [Bool.eq_iff_iff]
    simp only [decide_eq_true_eq]
    exact ⟨fun h => h.symm, fun h => h.symm⟩

theorem idxGo_split {c : UInt8} {l : List UInt8} {i k : Nat} (h : idxGo c l i = some k) : ∃ pre post, l = pre ++ c :: post ∧ k = i + pre.length ∧ c ∉ pre := by
  induction l generalizing i with
  | nil => simp [idxGo] at h
  | cons x l ih =>
    simp only [idxGo] at h
    cases hb : x == c with
    | true =>
      rw [hb] at h
      simp at h
      have hx : x = c := by simpa using hb
      subst hx h
      exact ⟨[], l, rfl, rfl, by simp⟩
    | false =>
      rw [hb] at h
      obtain ⟨pre, post, h1, h2, h3⟩ := ih h
      have hx : x ≠ c := by simpa using hb
      exact ⟨x :: pre, post, by rw [h1]; rfl, by simp; omega, by simp [h3, Ne.symm hx]⟩
theorem idxGo_no {c : UInt8} {l : List UInt8} {i : Nat} (h : idxGo c l i = none) : c ∉ l := by
  induction l generalizing i with
  | nil => simp
  | cons x l ih =>
    simp only [idxGo] at h
    cases hb : x == c with
    | true => rw [hb] at h; simp at h
    | false =>
      rw [hb] at h
      have hx : x ≠ c := by simpa using hb
      simp [ih h, Ne.symm hx]

/-- Quotes twice. -/
def qS (t : List UInt8) : List UInt8 := t.flatMap fun c => bif c == 39 then [39, 39] else [c]
theorem qS_app (a b : List UInt8) : qS (a ++ b) = qS a ++ qS b := by simp [qS]
theorem qS_no {l : List UInt8} (h : (39 : UInt8) ∉ l) : qS l = l := by
  induction l with
  | nil => rfl
  | cons x l ih =>
    simp only [List.mem_cons, not_or] at h
    have hx : (x == 39) = false := beq_eq_false_iff_ne.2 (Ne.symm h.1)
    have := ih h.2
    simp only [qS, List.flatMap_cons, hx, cond_false]
    simp only [qS] at this
    rw [this]
    rfl
theorem qS_len (l : List UInt8) : (qS l).length ≤ 2 * l.length := by
  induction l with
  | nil => exact Nat.le_refl _
  | cons x l ih =>
    have e : qS (x :: l) = (bif x == 39 then [39, 39] else [x]) ++ qS l := rfl
    rw [e, List.length_append, List.length_cons]
    cases x == 39
    · simp only [cond_false, List.length_cons, List.length_nil]; omega
    · simp only [cond_true, List.length_cons, List.length_nil]; omega

theorem run_copy0 {w : World} {nb cap : Nat} : (Builtin.copy_ #[176, 176] 3 #[.slice (some ⟨nb, 0, none⟩) 0 cap, .slice none 0 0]).run P w = .ok (.int .i64 0) w := by
  obtain ⟨i, hi, hs⟩ : ∃ i, (P.info? 5) = some i ∧ True := ⟨_, (ty5_ok.info).choose_spec.1, trivial⟩
  simp [Builtin.copy_, run_underlying Tryz.underlying176, Builtin.lenOf, Builtin.firstCells, sizeOf, typeInfo, program, hi, Sem.run, storeCells, goInt]

theorem c_grow0 {b n : Nat} (hn : 0 < n) (hn2 : n ≤ 1073741824) (hS : Sat g w ((b, bld (.pointer none) (.slice none 0 0)) :: H))
    (hR : ∀ v' hp' w', Grow Ty.uint8 1 v' 0 [] hp' → Sat g w' ((b, bld (ptr b 0) v') :: (hp' ++ H)) → R (.returned (.tuple #[])) w') : Tr P F.strings_Builder_Grow [ptr b 0, i64 (n : Int)] w R := by
  apply t_strings_Builder_Grow
  unfold d_strings_Builder_Grow
  refine c_copyCheck hS (.inl rfl) fun w1 h1 => ?_
  try simp only [↓E1, ↓E2, ↓E3, Nat.reduceAdd]
  refine jn0 (fun w' => Sat g w' ((b, bld (ptr b 0) (.slice none 0 0)) :: H)) ?_ ?_
  · intro w2 h2
    have h3 := h2.drew
    try simp only [↓E1, ↓E2, ↓E3, Nat.reduceAdd]
    rw [h3.ld0 1 _ (by simp)]
    try simp only [↓E1, ↓E2, ↓E3, Nat.reduceAdd]
    rw [h3.ld0 1 _ (by simp)]
    try simp only [↓E1, ↓E2, ↓E3, Nat.reduceAdd]
    have e0 : IntKind.i64.wrap (((0 : Nat) : Int) - ((0 : Nat) : Int)) = 0 := by rw [wrap64_of (by omega) (by omega)]; rfl
    rw [e0, cnd_dec]
    constructor
    rotate_left
    · intro h; omega
    intro _
    apply t_strings_Builder_grow
    unfold d_strings_Builder_grow
    have h4 := h3.drew
    try simp only [↓E1, ↓E2, ↓E3, Nat.reduceAdd]
    rw [h4.ld0 1 _ (by simp)]
    try simp only [↓E1, ↓E2, ↓E3, Nat.reduceAdd]
    rw [h4.ld0 1 _ (by simp)]
    try simp only [↓E1, ↓E2, ↓E3, Nat.reduceAdd]
    have e1 : IntKind.i64.wrap (IntKind.i64.wrap (2 * ((0 : Nat) : Int)) + (n : Int)) = (n : Int) := by
      rw [wrap64_of (n := 2 * ((0 : Nat) : Int)) (by omega) (by omega), wrap64_of (by omega) (by omega)]
      omega
    rw [e1]
    obtain ⟨cs, hrun, hle, _⟩ := Lib.run_makeNoZero (P := P) (w := w2.drew.drew) #[3] 176 5 Tryz.underlying176 n (by omega)
    refine tr_extern (e := Extern.BytealgMakeNoZero.makeNoZero #[3] #[176]) Tryz.func207 (by kernel_rfl) (by kernel_rfl) (by kernel_rfl) (by kernel_rfl) hrun ?_
    have h5 : Sat g (w2.drew.drew.drew.drew.alloc (.cells cs 5)) ((w2.drew.drew.heap.size, .cells cs.toList.toArray 5) :: (b, bld (ptr b 0) (.slice none 0 0)) :: H) := by
      have := h4.new (w' := w2.drew.drew.drew.drew.alloc (.cells cs 5)) (o := .cells cs 5) rfl rfl rfl rfl
      simpa using this
    generalize w2.drew.drew.drew.drew.alloc (.cells cs 5) = w6 at h5
    generalize w2.drew.drew.heap.size = nb at h5
    try simp only [↓E1, ↓E2, ↓E3, Nat.reduceAdd]
    refine h5.rk (b := b) (t := Ty.strings_Builder) (fr := (0, 0)) (c := [ptr b 0, .slice none 0 0]) (by simp) rfl ?_
    refine slL_hi _ _ _ _ _ _ (by omega) (by omega) ?_
    try simp only [↓E1, ↓E2, ↓E3, Nat.reduceAdd]
    rw [h5.ld1 1 _ (by simp)]
    try simp only [↓E1, ↓E2, ↓E3, Nat.reduceAdd]
    refine ⟨_, _, run_copy0, ?_⟩
    try simp only [↓E1, ↓E2, ↓E3, Nat.reduceAdd]
    refine st_one h5.swap2 rfl rfl (by simp) fun w7 h7 => ?_
    refine hR _ [(nb, .cells ([] ++ cs.toList).toArray 5)] w7 (.some (b := nb) (n := 0) (c := cs.size) (cs := []) (ex := cs.toList) rfl (by simp) (Nat.zero_le _) (by omega)) ?_
    exact h7
  · intro k1 hk1
    rw [cnd_dec]
    constructor
    · intro h; omega
    · intro _
      try simp only [↓E3]
      exact hk1 _ h1

theorem c_replaceAll {s : List UInt8} (hs : s.length ≤ 268435456) (hS : Sat g w H) (hR : ∀ w', Sat g w' H → R (.returned (str (qS s))) w') : Tr P F.strings_ReplaceAll [str s, str [39], str [39, 39]] w R := by
  apply t_strings_ReplaceAll
  unfold d_strings_ReplaceAll
  try simp only [↓E2]
  apply t_strings_Replace
  unfold d_strings_Replace
  refine jn1 (fun x w' => w' = w) ?_ ?_
  rotate_left
  · intro k1 hk1
    try simp only [↓E1, ↓E2, ↓E3]
    rw [cnd_dec]
    constructor
    · intro h; simp at h
    intro _
    rw [cnd_dec]
    constructor
    · intro h; omega
    intro _
    exact hk1 _ _ rfl
  rintro x8 w' rfl
  refine jn2 (fun x y w'' => w'' = w' ∧ x = i64 ((s.count 39 : Nat) : Int) ∧ 0 < s.count 39) ?_ ?_
  rotate_left
  · intro k2 hk2
    try simp only [↓E2]
    apply t_strings_Count
    unfold d_strings_Count
    have e1 : (([39] : List UInt8).length : Int) = 1 := rfl
    have e0 : decide ((1 : Int) = 0) = false := rfl
    try simp only [↓E1, ↓E2, ↓E3, e1, e0, decide_true]
    refine ⟨by omega, 39, rfl, ?_⟩
    try simp only [↓E2]
    refine c_count (c := 39) ?_
    try simp only [↓E1, ↓E2, ↓E3]
    rw [cnd_dec]
    constructor
    · intro h
      have : (39 : UInt8) ∉ s := by
        intro hm
        have := List.count_pos_iff.2 hm
        omega
      have := hR w' hS
      rw [qS_no ‹(39 : UInt8) ∉ s›] at this
      exact this
    intro h
    rw [cnd_dec]
    constructor
    · intro _
      exact hk2 _ _ _ ⟨rfl, rfl, by omega⟩
    · intro h; omega
  rintro x y w'' ⟨rfl, rfl, hpos⟩
  have hcl : s.count 39 ≤ s.length := List.count_le_length
  refine hS.al fun b10 w1 h1 => ?_
  try simp only [↓E1, ↓E2, ↓E3]
  have e : IntKind.i64.wrap ((s.length : Int) + IntKind.i64.wrap (((s.count 39 : Nat) : Int) * IntKind.i64.wrap ((([39, 39] : List UInt8).length : Int) - (([39] : List UInt8).length : Int)))) = ((s.length + s.count 39 : Nat) : Int) := by
    have a1 : (([39, 39] : List UInt8).length : Int) - (([39] : List UInt8).length : Int) = 1 := rfl
    rw [a1, wrap64_of (n := 1) (by omega) (by omega), Int.mul_one, wrap64_of (n := ((s.count 39 : Nat) : Int)) (by omega) (by omega), wrap64_nat (by omega)]
  rw [e]
  refine c_grow0 (by omega) (by omega) h1 fun v2 hp2 w2 hg2 h2 => ?_
  try simp only [↓E1, ↓E2, ↓E3]
  refine jn1 (fun x w3 => ∃ don rest v hp, x = i64 ((don.length : Nat) : Int) ∧ s = don ++ rest ∧ rest.count 39 = 0 ∧ Grow Ty.uint8 1 v (qS don).length (bcs (qS don)) hp ∧ Sat g w3 ((b10, bld (ptr b10 0) v) :: (hp ++ H))) ?_ ?_
  · rintro x w3 ⟨don, rest, v, hp, rfl, hsp, hc, hg, h3⟩
    have hl : s.length = don.length + rest.length := by rw [hsp, List.length_append]
    have hq := qS_len don
    rw [sl_lo]
    refine ⟨by omega, by omega, ?_⟩
    try simp only [↓E2]
    have ed : s.drop (((don.length : Nat) : Int).toNat) = rest := by rw [Int.toNat_natCast, hsp, List.drop_left']; rfl
    rw [ed]
    refine gc_WriteString fits_builder h3 (.inr rfl) hg (by omega) fun v4 hp4 w4 hg4 h4 => ?_
    try simp only [↓E2, ↓E3]
    refine c_BString (n := (qS don).length + rest.length) (l := qS don ++ rest) h4 hg4 (by omega) fun w5 h5 => ?_
    try simp only [↓E3]
    have hno : (39 : UInt8) ∉ rest := by
      intro hm
      have := List.count_pos_iff.2 hm
      omega
    have : qS s = qS don ++ rest := by rw [hsp, qS_app, qS_no hno]
    rw [← this]
    exact hR w5 h5.tail
  · intro k3 hk3
    have e1 : decide ((0 : Int) < (([39] : List UInt8).length : Int)) = true := rfl
    simp only [e1, ↓E3]
    refine lp2 (fun m x y w3 => ∃ don rest v hp j, x = i64 ((don.length : Nat) : Int) ∧ y = i64 ((j : Nat) : Int) ∧ m = s.count 39 - j ∧ j ≤ s.count 39 ∧ s = don ++ rest ∧ rest.count 39 = s.count 39 - j ∧ Grow Ty.uint8 1 v (qS don).length (bcs (qS don)) hp ∧ Sat g w3 ((b10, bld (ptr b10 0) v) :: (hp ++ H))) (s.count 39)
      ⟨[], s, v2, hp2, 0, rfl, rfl, rfl, by omega, rfl, rfl, hg2, h2⟩ ?_
    rintro m x y w3 ⟨don, rest, v, hp, j, rfl, rfl, rfl, hj, hsp, hc, hg, h3⟩
    have hl : s.length = don.length + rest.length := by rw [hsp, List.length_append]
    have hq := qS_len don
    try simp only [↓E1, ↓E2, ↓E3]
    rw [cnd_dec]
    constructor
    · intro hlt
      rw [sl_lo]
      refine ⟨by omega, by omega, ?_⟩
      have ed : s.drop (((don.length : Nat) : Int).toNat) = rest := by rw [Int.toNat_natCast, hsp, List.drop_left']; rfl
      rw [ed]
      try simp only [↓E2]
      refine c_index1 ?_
      cases hix : idx 39 rest with
      | none =>
        have hno := idxGo_no hix
        have : rest.count 39 = 0 := List.count_eq_zero.2 hno
        omega
      | some q =>
        obtain ⟨pre, post, hr, hq0, hno⟩ := idxGo_split hix
        have hq1 : q = pre.length := by omega
        subst hq1
        have hlr : rest.length = pre.length + (1 + post.length) := by rw [hr]; simp; omega
        try simp only [↓E1, ↓E2, ↓E3, idxI]
        rw [wrap64_nat (by omega), sl_lo_hi]
        refine ⟨by omega, by omega, by omega, ?_⟩
        have et : (s.drop (((don.length : Nat) : Int).toNat)).take ((((don.length + pre.length : Nat) : Int).toNat) - (((don.length : Nat) : Int).toNat)) = pre := by
          rw [ed, Int.toNat_natCast, Int.toNat_natCast, Nat.add_sub_cancel_left, hr, List.take_left']; rfl
        rw [et]
        try simp only [↓E2]
        refine gc_WriteString fits_builder h3 (.inr rfl) hg (by omega) fun v4 hp4 w4 hg4 h4 => ?_
        try simp only [↓E2, ↓E3]
        refine gc_WriteString (l := qS don ++ pre) (t := [39, 39]) fits_builder h4 (.inr rfl) hg4 (by simp; omega) fun v5 hp5 w5 hg5 h5 => ?_
        try simp only [↓E1, ↓E2, ↓E3]
        have e5 : IntKind.i64.wrap (((don.length + pre.length : Nat) : Int) + (([39] : List UInt8).length : Int)) = ((don.length + pre.length + 1 : Nat) : Int) := by
          rw [wrap64_of (by simp; omega) (by simp; omega)]; simp
        rw [e5, wrap64_succ (by omega)]
        have hdn : don ++ (pre ++ [39]) ++ post = s := by rw [hsp, hr]; simp
        have hqd : qS (don ++ (pre ++ [39])) = qS don ++ pre ++ [39, 39] := by rw [qS_app, qS_app, qS_no hno]; simp [qS]
        refine ⟨s.count 39 - (j + 1), by omega, _, _, rfl, don ++ (pre ++ [39]), post, v5, hp5, j + 1, by simp; omega, rfl, rfl, by omega, hdn.symm, ?_, ?_, h5⟩
        · rw [hr, List.count_append, List.count_cons] at hc
          have : pre.count 39 = 0 := List.count_eq_zero.2 hno
          simp at hc
          omega
        · rw [hqd]
          have en : (qS don ++ pre ++ [39, 39]).length = (qS don).length + pre.length + ([39, 39] : List UInt8).length := by simp; omega
          rw [en]
          exact hg5
    · intro hge
      have : j = s.count 39 := by omega
      subst this
      try simp only [↓E3]
      exact hk3 _ _ ⟨don, rest, v, hp, rfl, hsp, by omega, hg, h3⟩

theorem quoteS_eq (t : List UInt8) : quoteS t = 39 :: (qS t ++ [39]) := rfl

theorem c_Quote {s : List UInt8} (hs : s.length ≤ 268435456) (hS : Sat g w H) (hR : ∀ w', Sat g w' H → R (.returned (str (quoteS s))) w') : Tr P F.lex_Quote [str s] w R := by
  apply t_lex_Quote
  unfold d_lex_Quote
  try simp only [↓E2]
  refine c_replaceAll hs hS fun w1 h1 => ?_
  have hq := qS_len s
  have e39 : (Value.string { data := #[39] }) = str [39] := rfl
  try rw [e39]
  try simp only [↓E2, ↓E3]
  rw [bS_add]
  refine ⟨by simp; omega, ?_⟩
  rw [bS_add]
  refine ⟨by simp; omega, ?_⟩
  have := hR w1 h1
  rw [quoteS_eq] at this
  simpa using this

theorem quoteS_len (t : List UInt8) : (quoteS t).length ≤ 2 * t.length + 2 := by
  have := qS_len t
  rw [quoteS_eq]
  simp
  omega

theorem c_plainSym {s : List UInt8} (hs : Short s) (hS : Sat g w H) (hR : ∀ w', Sat g w' H → R (.returned (.bool (plainSymS s))) w') : Tr P F.lex_PlainSymbol [str s] w R := by
  apply t_lex_PlainSymbol
  unfold d_lex_PlainSymbol
  refine bdI (cs := [str s, i64 0]) rfl ?_
  refine hS.al fun b8 w1 h1 => ?_
  have h1 : Sat g w1 ((b8, rdr s 0) :: H) := h1
  refine jn1 (fun x w' => (s.isEmpty || s.headD 0 == 39) = false ∧ w' = w1) ?_ ?_
  · rintro x w' ⟨hb, rfl⟩
    try simp only [↓E2]
    refine c_symbol hs (Nat.zero_le _) h1 fun w2 h2 => ?_
    have hp : plainSymS s = ((symbolS s 0).1.2 && (symbolS s 0).1.1 == s) := by
      unfold plainSymS
      rw [hb]
      rfl
    try simp only [↓E2, ↓E3]
    rw [cnd_eq]
    constructor
    · intro hok
      try simp only [↓E2, ↓E3]
      have := hR w2 h2.tail
      rw [hp, hok, Bool.true_and] at this
      have e : decide ((symbolS s 0).1.1 = s) = ((symbolS s 0).1.1 == s) := by
        rw [Bool.eq_iff_iff]; simp
      rw [e]
      exact this
    · intro hno
      have := hR w2 h2.tail
      rw [hp, hno, Bool.false_and] at this
      exact this
  · intro k1 hk1
    have es : (Value.string { data := #[] }) = str [] := rfl
    try rw [es]
    try simp only [↓E2]
    rw [cnd_dec]
    constructor
    · rintro rfl
      have := hR w1 h1.tail
      exact this
    · intro hne
      obtain ⟨c, t, rfl⟩ : ∃ c t, s = c :: t := by
        cases s with
        | nil => exact absurd rfl hne
        | cons c t => exact ⟨c, t, rfl⟩
      refine ⟨by omega, c, rfl, ?_⟩
      try simp only [↓E1]
      rw [cnd_dec]
      constructor
      · intro h39
        have hc : c = 39 := by
          apply UInt8.toNat_inj.1
          have : ((c.toNat : Nat) : Int) = 39 := h39
          show c.toNat = 39
          omega
        subst hc
        exact hR w1 h1.tail
      · intro h39
        try simp only [↓E3]
        refine hk1 _ _ ⟨?_, rfl⟩
        have : (c == 39) = false := by
          rw [beq_eq_false_iff_ne]
          rintro rfl
          exact h39 rfl
        simp [this]
end Go.Vx
namespace Go.Vx
open Go Go.Proofs
variable {R : Ending → World → Prop} {g : G} {w : World} {H hp T : Hp}

theorem litS_len : ∀ n : Node, (litS n).length + 1 ≤ 4 * msr n := by
  refine Node.ind fun k t p nn ns ks ih => ?_
  have hl : ∀ (ks : List Node) (first : Bool), (∀ x ∈ ks, (litS x).length + 1 ≤ 4 * msr x) → (litsS ks first).length ≤ 4 * msrs ks := by
    intro ks
    induction ks with
    | nil => intro _ _; simp [litsS]
    | cons x ks ihk =>
      intro first h
      have h1 := ihk false fun y hy => h y (by simp [hy])
      have h2 := h x (by simp)
      simp only [litsS, List.length_append, msrs]
      have : (bif first then ([] : List UInt8) else [32]).length ≤ 1 := by cases first <;> simp
      omega
  have h1 := hl ks true ih
  have h2 := quoteS_len t
  simp only [litS, msr]
  cases Nat.beq k 2
  · cases Nat.beq k 3
    · cases Nat.beq k 4
      · simp only [cond_false]; omega
      · simp only [cond_true, cond_false, List.length_cons, List.length_append, List.length_nil]; omega
    · cases plainSymS t
      · simp only [cond_true, cond_false, List.length_cons]; omega
      · simp only [cond_true, cond_false, List.length_cons]; omega
  · simp only [cond_true]; omega

def WriteN (n : Node) : Prop := ∀ {g : G} {w : World} {H hp : Hp} {R : Ending → World → Prop} {b : Nat} {p v : Value} {c : List Value} {acc : List UInt8},
  NodeR g c n → Adr b p → Grow Ty.uint8 1 v acc.length (bcs acc) hp → acc.length + 4 * msr n ≤ 1073741824 → Sat g w ((b, bldT Ty.tree_writer p v) :: (hp ++ H)) →
  (∀ v' hp' w', Grow Ty.uint8 1 v' (acc ++ litS n).length (bcs (acc ++ litS n)) hp' → Sat g w' ((b, bldT Ty.tree_writer (ptr b 0) v') :: (hp' ++ H)) → R (.returned (.tuple #[])) w') → Tr P F.tree_writer_node [ptr b 0, .agg c.toArray] w R

theorem c_wlist {ks : List Node} (ih : ∀ x ∈ ks, WriteN x) {b : Nat} {p v kv : Value} {kcs : List (List Value)} {acc : List UInt8} (hkv : Sl g 6 kv ks.length kcs.flatten) (hkr : KR g kcs ks) (hp0 : p = ptr b 0) (hgr : Grow Ty.uint8 1 v acc.length (bcs acc) hp)
    (hb : acc.length + 4 * msrs ks + 1 ≤ 1073741824) (hS : Sat g w ((b, bldT Ty.tree_writer p v) :: (hp ++ H)))
    (hR : ∀ v' hp' w', Grow Ty.uint8 1 v' (acc ++ litsS ks true).length (bcs (acc ++ litsS ks true)) hp' → Sat g w' ((b, bldT Ty.tree_writer (ptr b 0) v') :: (hp' ++ H)) → R (.returned (.tuple #[])) w') : Tr P F.tree_writer_list [ptr b 0, kv, str [32]] w R := by
  subst hp0
  apply t_tree_writer_list
  unfold d_tree_writer_list
  obtain ⟨ka, kc, rfl, _, _, _⟩ := id hkv
  have hkl2 := len_msrs ks
  simp only [↓E2]
  refine lp1 (fun m x w' => ∃ i v' hp' acc', x = i64 ((i : Nat) : Int) ∧ m = ks.length - i ∧ i ≤ ks.length ∧ acc'.length + 4 * msrs (ks.drop i) ≤ acc.length + 4 * msrs ks ∧ acc' ++ litsS (ks.drop i) (Nat.beq i 0) = acc ++ litsS ks true ∧
      Grow Ty.uint8 1 v' acc'.length (bcs acc') hp' ∧ Sat g w' ((b, bldT Ty.tree_writer (ptr b 0) v') :: (hp' ++ H))) ks.length
    ⟨0, v, hp, acc, rfl, rfl, by omega, by simp, rfl, hgr, hS⟩ ?_
  rintro m x w1 ⟨i, v1, hp1, acc1, rfl, rfl, hi, hl, hacc, hg1, h1⟩
  try simp only [↓E1, ↓E2, ↓E3]
  rw [cnd_dec]
  constructor
  · intro hlt
    obtain ⟨x, hx⟩ : ∃ x, ks[i]? = some x := ⟨_, List.getElem?_eq_getElem (by omega)⟩
    have hxm : x ∈ ks := List.mem_of_getElem? hx
    refine hkr.at hkv hx h1 fun c5 hc5 => ?_
    refine h1.al fun b7 w2 h2 => ?_
    refine st_box (c2 := zN) h2 hc5.len rfl hc5.one fun w3 h3 => ?_
    have hdr : ks.drop i = x :: ks.drop (i + 1) := by
      rw [List.drop_eq_getElem_cons (List.getElem?_eq_some_iff.1 hx).1, (List.getElem?_eq_some_iff.1 hx).2]
    rw [hdr] at hl hacc
    simp only [msrs] at hl
    simp only [litsS] at hacc
    have hlx := litS_len x
    -- the node, behind what stands between
    have node : ∀ (acc2 : List UInt8) (v2 : Value) (hp2 : Hp) (w4 : World), acc2 = acc1 ++ (bif Nat.beq i 0 then [] else [32]) → acc2.length ≤ acc1.length + 1 → Grow Ty.uint8 1 v2 acc2.length (bcs acc2) hp2 → Sat g w4 ((b7, box c5) :: (b, bldT Ty.tree_writer (ptr b 0) v2) :: (hp2 ++ H)) → (i = 0 → acc2.length ≤ acc1.length) →
        ldn 6 (ptr b7 0) (fun t23 w => Tr P F.tree_writer_node [ptr b 0, t23] w (Vx.back (fun _ w => ∃ m', m' < ks.length - i ∧ ∃ y, [i64 (IntKind.i64.wrap ((i : Int) + 1))] = [y] ∧ ∃ i v' hp' acc', y = i64 ((i : Nat) : Int) ∧ m' = ks.length - i ∧ i ≤ ks.length ∧ acc'.length + 4 * msrs (ks.drop i) ≤ acc.length + 4 * msrs ks ∧ acc' ++ litsS (ks.drop i) (Nat.beq i 0) = acc ++ litsS ks true ∧
          Grow Ty.uint8 1 v' acc'.length (bcs acc') hp' ∧ Sat g w ((b, bldT Ty.tree_writer (ptr b 0) v') :: (hp' ++ H))) (fun ch w => R (.panicked ch) w))) w4 := by
      intro acc2 v2 hp2 w4 he hle hg2 h4 hz
      refine h4.ldn0 (c := c5) hc5.len.symm ?_
      refine ih x hxm hc5 (.inr rfl) hg2 (by omega) h4.tail fun v5 hp5 w5 hg5 h5 => ?_
      try simp only [↓E3]
      rw [wrap64_succ (by omega)]
      refine ⟨ks.length - (i + 1), by omega, _, rfl, i + 1, v5, hp5, acc2 ++ litS x, rfl, rfl, by omega, ?_, ?_, hg5, h5⟩
      · rw [List.length_append]
        omega
      · rw [← hacc, he]
        show _ ++ litsS (ks.drop (i + 1)) false = _
        simp only [List.append_assoc]
    try simp only [↓E1, ↓E2, ↓E3]
    rw [cnd_dec]
    constructor
    · intro hpos
      have hi0 : Nat.beq i 0 = false := by
        cases hb : Nat.beq i 0 with
        | false => rfl
        | true => have := Nat.eq_of_beq_eq_true hb; omega
      try simp only [↓E1, ↓E2, ↓E3, Nat.reduceAdd]
      have h3' : Sat g w3 ((b, bldT Ty.tree_writer (ptr b 0) v1) :: (hp1 ++ ((b7, box c5) :: H))) := h3.perm (List.perm_append_comm_assoc [_] ((b, bldT Ty.tree_writer (ptr b 0) v1) :: hp1) H)
      refine gc_WriteString (l := acc1) (t := [32]) fits_writer h3' (.inr rfl) hg1 (by simp; omega) fun v4 hp4 w4 hg4 h4 => ?_
      try simp only [↓E3]
      refine node (acc1 ++ [32]) v4 hp4 w4 (by rw [hi0]; rfl) (by simp) (by simpa using hg4) ?_ (fun h => by omega)
      exact h4.perm (List.perm_append_comm_assoc ((b, bldT Ty.tree_writer (ptr b 0) v4) :: hp4) [_] H)
    · intro hz
      have : i = 0 := by omega
      subst this
      refine node acc1 v1 hp1 w3 ?_ (by omega) hg1 h3 (fun _ => Nat.le_refl _)
      show acc1 = acc1 ++ []
      rw [List.append_nil]
  · intro hge
    have : i = ks.length := by omega
    subst this
    rw [List.drop_length] at hacc
    simp only [litsS, List.append_nil] at hacc
    rw [hacc] at hg1
    exact hR v1 hp1 w1 hg1 h1

theorem c_wnode : ∀ n, LitN n → WriteN n := by
  refine Node.ind fun k t pp nn ns ks ih => ?_
  intro hlit g w H hp R b p v c acc hn hadr hgr hb hS hR
  apply t_tree_writer_node
  unfold d_tree_writer_node
  have hlitk : k = 1 ∨ k = 2 ∨ k = 3 ∨ k = 13 ∨ k = 4 := by
    cases hlit with
    | leaf h => omega
    | list h => omega
  have hkids : ∀ x ∈ ks, WriteN x := by
    cases hlit with
    | leaf h => intro x hx; simp at hx
    | list h => exact fun x hx => ih x hx (h x hx)
  clear hlit
  cases hn with
  | @mk _ _ _ _ _ _ nv kv kcs hnv hkv hkl hkr =>
  have hkr : KR g kcs ks := ⟨hkl, hkr⟩
  have hlen := litS_len (.mk k t pp nn ns ks)
  simp only [msr] at hb hlen
  obtain ⟨c, hcd⟩ : ∃ c, c = [i64 (k : Int), str t, i64 (pp : Int), i64 (nn : Int), nv, kv] := ⟨_, rfl⟩
  rw [← hcd]
  have hclen : c.length = 6 := by rw [hcd]; rfl
  have g0 : c.getD 0 undef = i64 (k : Int) := by rw [hcd]; rfl
  have g1 : c.getD 1 undef = str t := by rw [hcd]; rfl
  have g5 : c.getD 5 undef = kv := by rw [hcd]; rfl
  clear hcd
  refine hS.al fun b3 w1 h1 => ?_
  have h1 : Sat g w1 ((b3, box c) :: (b, bldT Ty.tree_writer p v) :: (hp ++ H)) := by
    have e : (Value.agg c.toArray).cells.toList = c := by simp [Value.cells]
    rw [e] at h1
    exact h1
  have toW : ∀ {w' : World} {p' v' : Value} {hp' : Hp}, Sat g w' ((b3, box c) :: (b, bldT Ty.tree_writer p' v') :: (hp' ++ H)) → Sat g w' ((b, bldT Ty.tree_writer p' v') :: (hp' ++ ((b3, box c) :: H))) := fun {w' p' v' hp'} h =>
    h.perm (List.perm_append_comm_assoc [_] ((b, bldT Ty.tree_writer p' v') :: hp') H)
  have toB : ∀ {w' : World} {p' v' : Value} {hp' : Hp}, Sat g w' ((b, bldT Ty.tree_writer p' v') :: (hp' ++ ((b3, box c) :: H))) → Sat g w' ((b3, box c) :: (b, bldT Ty.tree_writer p' v') :: (hp' ++ H)) := fun {w' p' v' hp'} h =>
    h.perm (List.perm_append_comm_assoc ((b, bldT Ty.tree_writer p' v') :: hp') [_] H)
  have wr : ∀ (t2 : List UInt8) (w' : World), t2 = litS (.mk k t pp nn ns ks) → Sat g w' ((b3, box c) :: (b, bldT Ty.tree_writer p v) :: (hp ++ H)) → Tr P F.strings_Builder_WriteString [ptr b 0, str t2] w' (Vx.back (fun _ w => R (.returned (.tuple #[])) w) (fun ch w => R (.panicked ch) w)) := by
    intro t2 w' he h
    subst he
    refine gc_WriteString fits_writer (toW h) hadr hgr (by omega) fun v4 hp4 w4 hg4 h4 => ?_
    try simp only [↓E3]
    refine hR v4 hp4 w4 (by rw [List.length_append]; exact hg4) ?_
    exact (toB h4).tail
  have hts : Short t := by unfold Short; omega
  try simp only [↓E1, ↓E2, ↓E3, Nat.reduceAdd]
  rw [h1.ld0 0 _ (by omega), g0]
  try simp only [↓E1, ↓E2, ↓E3, Nat.reduceAdd]
  rw [cnd_dec]
  constructor
  · intro hk
    have : k = 2 := by omega
    subst this
    have h2 := h1.drew
    try simp only [↓E1, ↓E2, ↓E3, Nat.reduceAdd]
    rw [h2.ld0 1 _ (by omega), g1]
    try simp only [↓E1, ↓E2, ↓E3, Nat.reduceAdd]
    refine c_Quote (by omega) h2 fun w3 h3 => ?_
    try simp only [↓E1, ↓E2, ↓E3, Nat.reduceAdd]
    exact wr _ w3 rfl h3
  intro hk2
  try simp only [↓E1, ↓E2, ↓E3, Nat.reduceAdd]
  rw [cnd_dec]
  constructor
  · intro hk
    have : k = 3 := by omega
    subst this
    try simp only [↓E1, ↓E2, ↓E3, Nat.reduceAdd]
    rw [h1.ld0 1 _ (by omega), g1]
    try simp only [↓E1, ↓E2, ↓E3, Nat.reduceAdd]
    refine jn1 (fun x w' => x = str (bif plainSymS t then t else quoteS t) ∧ Sat g w' ((b3, box c) :: (b, bldT Ty.tree_writer p v) :: (hp ++ H))) ?_ ?_
    · rintro x w2 ⟨rfl, h2⟩
      have e35 : (Value.string { data := #[35] }) = str [35] := rfl
      try rw [e35]
      try simp only [↓E1, ↓E2, ↓E3, Nat.reduceAdd]
      rw [bS_add]
      refine ⟨?_, wr _ w2 rfl h2⟩
      have := quoteS_len t
      cases plainSymS t
      · simp only [cond_false, List.length_cons, List.length_nil]; omega
      · simp only [cond_true, List.length_cons, List.length_nil]; omega
    · intro k1 hk1
      refine c_plainSym hts h1 fun w2 h2 => ?_
      try simp only [↓E1, ↓E2, ↓E3, Nat.reduceAdd]
      rw [cnd_eq]
      constructor
      · intro hq
        have hq : plainSymS t = false := by simpa using hq
        try simp only [↓E1, ↓E2, ↓E3, Nat.reduceAdd]
        refine c_Quote (by omega) h2 fun w3 h3 => ?_
        try simp only [↓E1, ↓E2, ↓E3, Nat.reduceAdd]
        exact hk1 _ _ ⟨by rw [hq]; rfl, h3⟩
      · intro hq
        have hq : plainSymS t = true := by simpa using hq
        try simp only [↓E1, ↓E2, ↓E3, Nat.reduceAdd]
        exact hk1 _ _ ⟨by rw [hq]; rfl, h2⟩
  intro hk3
  try simp only [↓E1, ↓E2, ↓E3, Nat.reduceAdd]
  rw [cnd_dec]
  constructor
  · intro hk
    have : k = 4 := by omega
    subst this
    have e2 : (Value.string { data := #[35, 40] }) = str [35, 40] := rfl
    have e3 : (Value.string { data := #[32] }) = str [32] := rfl
    try rw [e2]
    try rw [e3]
    try simp only [↓E1, ↓E2, ↓E3, Nat.reduceAdd]
    refine gc_WriteString (t := [35, 40]) fits_writer (toW h1) hadr hgr (by simp; omega) fun v4 hp4 w4 hg4 h4 => ?_
    have h4 := toB h4
    try simp only [↓E1, ↓E2, ↓E3, Nat.reduceAdd]
    rw [h4.ld0 5 _ (by omega), g5]
    try simp only [↓E1, ↓E2, ↓E3, Nat.reduceAdd]
    have e4 : litS (.mk 4 t pp nn ns ks) = 35 :: 40 :: (litsS ks true ++ [41]) := by simp only [litS]; rfl
    have hll : (litsS ks true).length + 4 ≤ 4 * (1 + t.length + nsM ns + msrs ks) := by
      rw [e4] at hlen
      simp only [List.length_cons, List.length_append, List.length_nil] at hlen
      omega
    refine c_wlist (acc := acc ++ [35, 40]) hkids hkv hkr rfl (by simpa using hg4) (by simp; omega) (toW h4) fun v5 hp5 w5 hg5 h5 => ?_
    try simp only [↓E1, ↓E2, ↓E3, Nat.reduceAdd]
    refine gc_WriteByte (c := 41) fits_writer h5 (.inr rfl) hg5 (by simp; omega) fun v6 hp6 w6 hg6 h6 => ?_
    try simp only [↓E1, ↓E2, ↓E3, Nat.reduceAdd]
    refine hR v6 hp6 w6 ?_ (toB h6).tail
    have e : acc ++ litS (.mk 4 t pp nn ns ks) = acc ++ [35, 40] ++ litsS ks true ++ [41] := by rw [e4]; simp
    rw [e, List.length_append (bs := [41])]
    exact hg6
  intro hk4
  have hl1 : litS (.mk k t pp nn ns ks) = t := by
    have : k = 1 ∨ k = 13 := by omega
    rcases this with rfl | rfl <;> rfl
  have no : ∀ j : Nat, (j = 6 ∨ j = 7 ∨ j = 8 ∨ j = 10 ∨ j = 11 ∨ j = 12) → decide ((k : Int) = (j : Int)) = false := by
    intro j hj
    rw [decide_eq_false_iff_not]
    omega
  have n6 := no 6 (by decide)
  have n7 := no 7 (by decide)
  have n8 := no 8 (by decide)
  have n10 := no 10 (by decide)
  have n11 := no 11 (by decide)
  have n12 := no 12 (by decide)
  try simp only [↓E1, ↓E2, ↓E3, Nat.reduceAdd]
  rw [show decide ((k : Int) = 6) = false from n6]
  try simp only [↓E1, ↓E2, ↓E3, Nat.reduceAdd]
  rw [show decide ((k : Int) = 7) = false from n7]
  try simp only [↓E1, ↓E2, ↓E3, Nat.reduceAdd]
  rw [show decide ((k : Int) = 8) = false from n8]
  try simp only [↓E1, ↓E2, ↓E3, Nat.reduceAdd]
  rw [show decide ((k : Int) = 10) = false from n10]
  try simp only [↓E1, ↓E2, ↓E3, Nat.reduceAdd]
  rw [show decide ((k : Int) = 11) = false from n11]
  try simp only [↓E1, ↓E2, ↓E3, Nat.reduceAdd]
  rw [show decide ((k : Int) = 12) = false from n12]
  try simp only [↓E1, ↓E2, ↓E3, Nat.reduceAdd]
  have h2 := h1.drew
  rw [h2.ld0 1 _ (by omega), g1]
  try simp only [↓E1, ↓E2, ↓E3, Nat.reduceAdd]
  exact wr t _ hl1.symm h2

theorem c_Text {n : Node} {c : List Value} (hlit : LitN n) (hn : NodeR g c n) (hm : msr n ≤ 134217728) (hS : Sat g w H) (hR : ∀ w', Sat g w' H → R (.returned (str (litS n))) w') : Tr P F.tree_Text [.agg c.toArray] w R := by
  apply t_tree_Text
  unfold d_tree_Text
  have e : (Value.agg c.toArray).cells.toList = c := by simp [Value.cells]
  rw [e]
  refine hS.al fun b1 w1 h1 => h1.al fun b3 w2 h2 => ?_
  have h2 : Sat g w2 ((b3, bldT Ty.tree_writer (.pointer none) (.slice none 0 0)) :: (b1, box c) :: H) := h2
  refine h2.ldnH (b := b1) (c := c) (t := Ty.tree_Node) (fr := (0, 0)) (by simp) 6 0 (by rw [hn.len]; decide) ?_
  rw [List.drop_zero, List.take_of_length_le (by rw [hn.len]; decide)]
  try simp only [↓E1, ↓E2, ↓E3, Nat.reduceAdd]
  have hl := litS_len n
  refine c_wnode n hlit (acc := []) (hp := []) hn (.inl rfl) .nil (by simp; omega) h2 fun v3 hp3 w3 hg3 h3 => ?_
  try simp only [↓E1, ↓E2, ↓E3, Nat.reduceAdd]
  refine gc_BString (l := litS n) (n := (litS n).length) h3 (by simpa using hg3) (by omega) fun w4 h4 => ?_
  try simp only [↓E1, ↓E2, ↓E3, Nat.reduceAdd]
  exact hR w4 h4.tail.tail
end Go.Vx
namespace Go.Vx
open Go Go.Proofs
variable {R : Ending → World → Prop} {g : G} {w : World} {H hp T : Hp}

def insC (i : Ins) : List Value := [i64 (i.op : Int), i64 (i.a : Int), i64 (i.b : Int)]
def insZ (l : List Ins) : List Value := (l.map insC).flatten
theorem insZ_snoc (l : List Ins) (i : Ins) : insZ (l ++ [i]) = insZ l ++ insC i := by simp [insZ]

/-- Units' cells, and what lies behind them. -/
inductive UR : List CU → List Value → Hp → Prop
  | nil : UR [] [] []
  | cons {u : CU} {us : List CU} {v : Value} {cs : List Value} {hp1 hp2 : Hp} (hg : Grow Ty.code_Ins 3 v u.ins.length (insZ u.ins) hp1) (hr : UR us cs hp2) : UR (u :: us) (i64 (u.args : Int) :: i64 (u.names : Int) :: v :: cs) (hp1 ++ hp2)

theorem UR.len {us : List CU} {cs : List Value} (h : UR us cs hp) : cs.length = us.length * 3 := by
  induction h with
  | nil => rfl
  | cons _ _ ih => simp only [List.length_cons, ih]; omega
theorem UR.snoc {us : List CU} {cs : List Value} (h : UR us cs hp) (a n : Nat) : UR (us ++ [⟨a, n, []⟩]) (cs ++ [i64 (a : Int), i64 (n : Int), .slice none 0 0]) hp := by
  induction h with
  | nil => exact .cons (hp1 := []) (hp2 := []) .nil .nil
  | cons hg _ ih => exact .cons hg ih

/-- One unit of them. -/
theorem UR.split {us : List CU} {cs : List Value} (h : UR us cs hp) {u : Nat} (hu : u < us.length) (i : Ins) : ∃ x v csA csB hp1 hpx hp2, us[u]? = some x ∧ hp = hp1 ++ (hpx ++ hp2) ∧ cs = csA ++ (i64 (x.args : Int) :: i64 (x.names : Int) :: v :: csB) ∧ csA.length = u * 3 ∧
    Grow Ty.code_Ins 3 v x.ins.length (insZ x.ins) hpx ∧ ∀ v' hpx', Grow Ty.code_Ins 3 v' (x.ins.length + 1) (insZ (x.ins ++ [i])) hpx' → UR (modU us u i) (csA ++ (i64 (x.args : Int) :: i64 (x.names : Int) :: v' :: csB)) (hp1 ++ (hpx' ++ hp2)) := by
  induction h generalizing u with
  | nil => simp at hu
  | @cons y us v cs hp1 hp2 hg hr ih =>
    cases u with
    | zero => exact ⟨y, v, [], cs, [], hp1, hp2, rfl, rfl, rfl, rfl, hg, fun v' hpx' hg' => show UR _ _ (hpx' ++ hp2) from .cons (u := ⟨y.args, y.names, y.ins ++ [i]⟩) (by simpa using hg') hr⟩
    | succ u =>
      obtain ⟨x, v2, csA, csB, p1, px, p2, h1, h2, h3, h4, h5, h6⟩ := ih (u := u) (by simpa using hu)
      refine ⟨x, v2, i64 (y.args : Int) :: i64 (y.names : Int) :: v :: csA, csB, hp1 ++ p1, px, p2, by simpa using h1, by rw [h2, List.append_assoc], by rw [h3]; rfl, by simp only [List.length_cons, h4]; omega, h5, fun v' hpx' hg' => ?_⟩
      have := UR.cons hg (h6 v' hpx' hg')
      rw [← List.append_assoc] at this
      exact this

abbrev mkO (sel : List UInt8) (vU vL vN vS vX : Value) : Obj := .cells [str sel, vU, vL, vN, vS, vX].toArray Ty.code_maker

/-- A maker. -/
def MR (g : G) (sel : List UInt8) (b : Nat) (m : MK) (hp : Hp) : Prop :=
  ∃ vU cU hU hI vL hL vN hN vS hS vX, UR m.units cU hI ∧ Grow Ty.code_Unit 3 vU m.units.length cU hU ∧ Grow Ty.string 1 vL m.lits.length (m.lits.map str) hL ∧ Grow Ty.string 1 vN m.names.length (m.names.map str) hN ∧
    Grow Ty.string 1 vS m.sels.length (m.sels.map str) hS ∧ Sl g 6 vX m.uses.length (useZ m.uses) ∧ hp = (b, mkO sel vU vL vN vS vX) :: (hU ++ (hI ++ (hL ++ (hN ++ hS))))

theorem MR.mono {g g' : G} (hg : g.le g') {sel : List UInt8} {b : Nat} {m : MK} (h : MR g sel b m hp) : MR g' sel b m hp := by
  obtain ⟨vU, cU, hU, hI, vL, hL, vN, hN, vS, hS, vX, h1, h2, h3, h4, h5, h6, h7⟩ := h
  exact ⟨vU, cU, hU, hI, vL, hL, vN, hN, vS, hS, vX, h1, h2, h3, h4, h5, h6.mono hg, h7⟩

def insT : List CU → Nat
  | [] => 0
  | u :: l => u.ins.length + insT l
/-- How great a maker is. -/
def tot (m : MK) : Nat := insT m.units + m.units.length + m.lits.length + m.names.length + m.sels.length
theorem insT_at {us : List CU} {u : Nat} {x : CU} (h : us[u]? = some x) : x.ins.length ≤ insT us := by
  induction us generalizing u with
  | nil => simp at h
  | cons y us ih =>
    cases u with
    | zero => simp at h; subst h; simp [insT]
    | succ u => have := ih (u := u) (by simpa using h); simp only [insT]; omega

theorem c_add {sel : List UInt8} {b u : Nat} {m : MK} {op a bb : Nat} (hM : MR g sel b m hp) (hu : u < m.units.length) (ht : tot m ≤ 1073741824) (hS : Sat g w (hp ++ H))
    (hR : ∀ hp' w', MR g sel b (addI m u ⟨op, a, bb⟩) hp' → Sat g w' (hp' ++ H) → R (.returned (.tuple #[])) w') : Tr P F.code_maker_add [ptr b 0, i64 (u : Int), i64 (op : Int), i64 (a : Int), i64 (bb : Int)] w R := by
  apply t_code_maker_add
  unfold d_code_maker_add
  obtain ⟨vU, cU, hU, hI, vL, hL, vN, hN, vS, hSe, vX, hur, hgU, hgL, hgN, hgS, hX, rfl⟩ := id hM
  rcases hgU.inv with ⟨_, h0, _⟩ | ⟨bU, cc, ex, rfl, hcl, hexl, hcc, hc0, rfl⟩
  · omega
  obtain ⟨x, v, csA, csB, hp1, hpx, hp2, hx, rfl, rfl, hA, hgx, hback⟩ := hur.split hu ⟨op, a, bb⟩
  have hxl := insT_at hx
  have hxt : x.ins.length ≤ 1073741824 := by unfold tot at ht; omega
  have h1 := hS.drew
  have h1 : Sat g w.drew ((b, mkO sel (.slice (some ⟨bU, 0, none⟩) m.units.length cc) vL vN vS vX) :: (bU, .cells ((csA ++ (i64 (x.args : Int) :: i64 (x.names : Int) :: v :: csB)) ++ ex).toArray Ty.code_Unit) :: (hp1 ++ (hpx ++ (hp2 ++ (hL ++ (hN ++ hSe)) ++ H)))) := by
    simpa using h1
  obtain ⟨cells, hcells⟩ : ∃ cells, cells = (csA ++ (i64 (x.args : Int) :: i64 (x.names : Int) :: v :: csB)) ++ ex := ⟨_, rfl⟩
  rw [← hcells] at h1
  have hlen : u * 3 + 2 < cells.length := by rw [hcells]; simp [hA]
  have hget : cells.getD (u * 3 + 2) undef = v := by
    rw [hcells, List.getD_eq_getElem?_getD, List.append_assoc, List.getElem?_append_right (by omega), hA]
    simp
  simp only [↓E1, ↓E2, ↓E3, Nat.reduceAdd]
  rw [h1.ld0 1 _ (by simp)]
  simp only [↓E1, ↓E2, ↓E3, Nat.reduceAdd]
  rw [h1.ld0 1 _ (by simp)]
  simp only [↓E1, ↓E2, ↓E3, Nat.reduceAdd]
  rw [ia_eq]
  refine ⟨by omega, by omega, ?_⟩
  rw [Int.toNat_natCast, Nat.zero_add]
  simp only [↓E1, ↓E2, ↓E3, Nat.reduceAdd]
  rw [h1.ld1 (u * 3 + 2) _ hlen, hget]
  refine bdI (cs := insC ⟨op, a, bb⟩) rfl ?_
  refine h1.bs (cs := insC ⟨op, a, bb⟩) rfl fun bn w2 h2 => ?_
  refine h2.rk (b := bU) (t := Ty.code_Unit) (fr := (0, 0)) (c := cells) (by simp) (by rw [← hget, List.getD_eq_getElem?_getD, List.getElem?_eq_getElem hlen]; rfl) ?_
  refine h2.rk (b := b) (t := Ty.code_maker) (fr := (0, 0)) (c := [str sel, _, vL, vN, vS, vX]) (by simp) rfl ?_
  refine h2.rk (b := b) (t := Ty.code_maker) (fr := (0, 0)) (c := [str sel, _, vL, vN, vS, vX]) (by simp) rfl ?_
  have h3 := Sat.pull1 (A := (b, mkO sel (.slice (some ⟨bU, 0, none⟩) m.units.length cc) vL vN vS vX) :: (bU, .cells cells.toArray Ty.code_Unit) :: hp1) (hp := hpx) h2
  refine h3.ap1 (m := 1) hgx rfl rfl rfl (by omega) (by omega) fun v' hpx' w4 hg4 h4 => ?_
  have h5 := Sat.pull (A := hpx') (hp := (b, mkO sel (.slice (some ⟨bU, 0, none⟩) m.units.length cc) vL vN vS vX) :: (bU, .cells cells.toArray Ty.code_Unit) :: hp1) h4
  have h5 : Sat g w4 ((b, mkO sel (.slice (some ⟨bU, 0, none⟩) m.units.length cc) vL vN vS vX) :: (bU, .cells cells.toArray Ty.code_Unit) :: (hp1 ++ (hpx' ++ (hp2 ++ (hL ++ (hN ++ hSe)) ++ H)))) := h5
  refine h5.rk (b := b) (t := Ty.code_maker) (fr := (0, 0)) (c := [str sel, _, vL, vN, vS, vX]) (by simp) rfl ?_
  rw [ia_eq]
  refine ⟨by omega, by omega, ?_⟩
  rw [Int.toNat_natCast, Nat.zero_add]
  simp only [↓E1, ↓E2, ↓E3, Nat.reduceAdd]
  have hv : v'.cells = #[v'] ∧ one v' = true := by obtain ⟨a, c, rfl⟩ := hg4.slice; exact ⟨rfl, rfl⟩
  refine st_one h5.swap2 hv.1 hv.2 hlen fun w6 h6 => ?_
  have hset : cells.set (u * 3 + 2) v' = (csA ++ (i64 (x.args : Int) :: i64 (x.names : Int) :: v' :: csB)) ++ ex := by
    rw [hcells, List.append_assoc, List.set_append_right _ _ (by omega), hA, List.append_assoc]
    simp
  rw [hset] at h6
  rw [← insZ_snoc] at hg4
  have hur' := hback v' hpx' hg4
  obtain ⟨cs', hcs'⟩ : ∃ cs', cs' = csA ++ (i64 (x.args : Int) :: i64 (x.names : Int) :: v' :: csB) := ⟨_, rfl⟩
  have hcl' : cs'.length = m.units.length * 3 := by rw [hcs', ← hcl]; simp
  rw [← hcs'] at h6 hur'
  refine hR ((b, mkO sel (.slice (some ⟨bU, 0, none⟩) m.units.length cc) vL vN vS vX) :: ([(bU, .cells (cs' ++ ex).toArray Ty.code_Unit)] ++ ((hp1 ++ (hpx' ++ hp2)) ++ (hL ++ (hN ++ hSe))))) w6
    ⟨.slice (some ⟨bU, 0, none⟩) m.units.length cc, cs', [(bU, .cells (cs' ++ ex).toArray Ty.code_Unit)], hp1 ++ (hpx' ++ hp2), vL, hL, vN, hN, vS, hSe, vX, hur', ?_, hgL, hgN, hgS, hX, rfl⟩ ?_
  · have hml : (addI m u ⟨op, a, bb⟩).units.length = m.units.length := by
      show (modU m.units u ⟨op, a, bb⟩).length = _
      have : ∀ (l : List CU) (u : Nat) (i : Ins), (modU l u i).length = l.length := by
        intro l
        induction l with
        | nil => intro u i; rfl
        | cons y l ih => intro u i; cases u <;> simp [modU, ih]
      exact this _ _ _
    rw [hml]
    exact .some hcl' hexl hcc hc0
  · simpa using h6.swap2
end Go.Vx
namespace Go.Vx
open Go Go.Proofs
variable {R : Ending → World → Prop} {g : G} {w : World} {H hp T : Hp}

/-- A slice of texts that grows is read. -/
theorem Grow.rdS {v : Value} {l : List (List UInt8)} (hg : Grow Ty.string 1 v l.length (l.map str) hp) (hS : Sat g w H) (hsub : ∀ x ∈ hp, x ∈ H) {j : Nat} {x : List UInt8} (hx : l[j]? = Option.some x) {K : Value → World → Prop} (hK : K (str x) w) : ia 1 v (i64 (j : Int)) (fun t w => ld t K w) w := by
  have hlt := (List.getElem?_eq_some_iff.1 hx).1
  rcases hg.inv with ⟨_, h0, _⟩ | ⟨b, c, ex, rfl, hl, _, hc, _, rfl⟩
  · omega
  · rw [ia_eq]
    refine ⟨by omega, by omega, ?_⟩
    rw [Int.toNat_natCast, Nat.mul_one, Nat.zero_add]
    rw [hS.ldH (b := b) (c := l.map str ++ ex) (t := Ty.string) (fr := (0, 0)) (hsub _ (by simp)) j _ (by simp; omega)]
    have : (l.map str ++ ex).getD j undef = str x := by
      rw [List.getD_eq_getElem?_getD, List.getElem?_append_left (by simpa using hlt), List.getElem?_map, hx]
      rfl
    rw [this]
    exact hK

theorem c_indexW {v : Value} {l : List (List UInt8)} {t : List UInt8} (hv : ∃ a c, v = .slice a l.length c) (hl : l.length ≤ 4611686018427387904)
    (hrd : ∀ (j : Nat) (x : List UInt8) (K : Value → World → Prop), l[j]? = some x → K (str x) w → ia 1 v (i64 (j : Int)) (fun t w => ld t K w) w)
    (hR : R (.returned (i64 (idxI (idxT t l 0)))) w) : Tr P F.slices_Index_string_string [v, str t] w R := by
  apply t_slices_Index_string_string
  unfold d_slices_Index_string_string
  obtain ⟨a, c, rfl⟩ := hv
  try simp only [↓E2]
  refine lp2 (fun m x y w' => w' = w ∧ ∃ k, y = i64 ((k : Nat) : Int) ∧ m = l.length - k ∧ k ≤ l.length ∧ idxT t (l.drop k) k = idxT t l 0) l.length ⟨rfl, 0, rfl, rfl, by omega, rfl⟩ ?_
  rintro m x y w' ⟨rfl, k, rfl, rfl, hk, hi⟩
  try simp only [↓E1]
  rw [cnd_dec]
  constructor
  · intro hlt
    obtain ⟨x, hx⟩ : ∃ x, l[k]? = some x := ⟨_, List.getElem?_eq_getElem (by omega)⟩
    refine hrd k x _ hx ?_
    try simp only [↓E2]
    rw [idxT_drop hx] at hi
    rw [cnd_dec]
    constructor
    · rintro rfl
      rw [beq_self_eq_true, cond_true] at hi
      rw [← hi] at hR
      exact hR
    · intro hne
      have : (x == t) = false := beq_eq_false_iff_ne.2 (fun e => hne e.symm)
      rw [this, cond_false] at hi
      try simp only [↓E1, ↓E3]
      rw [wrap64_succ (by omega)]
      exact ⟨l.length - (k + 1), by omega, _, _, rfl, trivial, k + 1, rfl, rfl, by omega, hi⟩
  · intro hge
    have : k = l.length := by omega
    subst this
    rw [List.drop_length] at hi
    rw [← hi] at hR
    exact hR

theorem c_once {b o : Nat} {ty : TypeId} {C : List Value} {v : Value} {l : List (List UInt8)} {t : List UInt8} (ho : o < C.length) (hC : C.getD o undef = v) (hg : Grow Ty.string 1 v l.length (l.map str) hp) (hl : l.length ≤ 1073741824)
    (hS : Sat g w ((b, .cells C.toArray ty) :: (hp ++ H)))
    (hR : ∀ v' hp' w', Grow Ty.string 1 v' (onceS l t).1.length ((onceS l t).1.map str) hp' → Sat g w' ((b, .cells (C.set o v').toArray ty) :: (hp' ++ H)) → R (.returned (i64 (((onceS l t).2 : Nat) : Int))) w') : Tr P F.code_once [ptr b o, str t] w R := by
  apply t_code_once
  unfold d_code_once
  try simp only [↓E1, ↓E2, ↓E3]
  rw [hS.ld0 o _ ho, hC]
  try simp only [↓E2]
  refine c_indexW (l := l) hg.slice (by omega) (fun j x K hx hK => hg.rdS hS (fun x hx => by simp [hx]) hx hK) ?_
  try simp only [↓E1, ↓E2, ↓E3]
  cases hix : idxT t l 0 with
  | some k =>
    have ho1 : onceS l t = (l, k) := by unfold onceS; rw [hix]
    rw [ho1] at hR
    rw [cnd_dec]
    constructor
    · intro _
      refine hR v hp w hg ?_
      have : C.set o v = C := by
        apply List.ext_getElem?
        intro i
        rw [List.getElem?_set]
        split
        · rename_i e
          subst e
          rw [← hC, List.getD_eq_getElem?_getD, List.getElem?_eq_getElem ho]
          rfl
        · rfl
      rw [this]
      exact hS
    · intro h
      exact absurd (Int.natCast_nonneg k) h
  | none =>
    have ho1 : onceS l t = (l ++ [t], l.length) := by unfold onceS; rw [hix]
    rw [ho1] at hR
    rw [cnd_dec]
    constructor
    · intro h; simp [idxI] at h
    intro _
    rw [hS.ld0 o _ ho, hC]
    refine hS.bs (cs := [str t]) rfl fun b19 w2 h2 => ?_
    have h3 : Sat g w2 ((b19, .cells [str t].toArray 9) :: (hp ++ ((b, .cells C.toArray ty) :: H))) := h2.perm (.cons _ List.perm_middle.symm)
    refine h3.ap1 (m := 1) hg rfl rfl rfl (by omega) (by omega) fun v' hp' w4 hg4 h4 => ?_
    have h5 : Sat g w4 ((b, .cells C.toArray ty) :: (hp' ++ H)) := h4.perm List.perm_middle
    have hv : v'.cells = #[v'] ∧ one v' = true := by obtain ⟨a, c, rfl⟩ := hg4.slice; exact ⟨rfl, rfl⟩
    try simp only [↓E1, ↓E2, ↓E3]
    refine st_one h5 hv.1 hv.2 ho fun w6 h6 => ?_
    try simp only [↓E1, ↓E2, ↓E3]
    rw [h6.ld0 o _ (by simpa using ho)]
    have hgd : (C.set o v').getD o undef = v' := by
      rw [List.getD_eq_getElem?_getD, List.getElem?_set_self ho]
      rfl
    rw [hgd]
    obtain ⟨a, c, rfl⟩ := hg4.slice
    try simp only [↓E1, ↓E2, ↓E3]
    have e : IntKind.i64.wrap (((l.length + 1 : Nat) : Int) - 1) = ((l.length : Nat) : Int) := by
      rw [wrap64_of (by omega) (by omega)]; omega
    rw [e]
    refine hR _ hp' w6 ?_ h6
    simpa using hg4

theorem once_len (l : List (List UInt8)) (t : List UInt8) : (onceS l t).1.length ≤ l.length + 1 := by
  unfold onceS
  split <;> simp

theorem c_onceL {sel : List UInt8} {b : Nat} {m : MK} {t : List UInt8} (hM : MR g sel b m hp) (ht : tot m ≤ 1073741824) (hS : Sat g w (hp ++ H))
    (hR : ∀ hp' w', MR g sel b { m with lits := (onceS m.lits t).1 } hp' → Sat g w' (hp' ++ H) → R (.returned (i64 (((onceS m.lits t).2 : Nat) : Int))) w') : Tr P F.code_once [ptr b 2, str t] w R := by
  obtain ⟨vU, cU, hU, hI, vL, hL, vN, hN, vS, hSe, vX, hur, hgU, hgL, hgN, hgS, hX, rfl⟩ := id hM
  have h1 : Sat g w ((b, mkO sel vU vL vN vS vX) :: ((hU ++ hI) ++ (hL ++ ((hN ++ hSe) ++ H)))) := by simpa using hS
  refine c_once (o := 2) (C := [str sel, vU, vL, vN, vS, vX]) (l := m.lits) (by simp) rfl hgL (by unfold tot at ht; omega) h1.pull1 fun v' hp' w' hg' h' => ?_
  refine hR ((b, mkO sel vU v' vN vS vX) :: (hU ++ (hI ++ (hp' ++ (hN ++ hSe))))) w' ⟨vU, cU, hU, hI, v', hp', vN, hN, vS, hSe, vX, hur, hgU, hg', hgN, hgS, hX, rfl⟩ ?_
  simpa using Sat.pull1 (A := hp') (hp := hU ++ hI) h'

theorem c_onceN {sel : List UInt8} {b : Nat} {m : MK} {t : List UInt8} (hM : MR g sel b m hp) (ht : tot m ≤ 1073741824) (hS : Sat g w (hp ++ H))
    (hR : ∀ hp' w', MR g sel b { m with names := (onceS m.names t).1 } hp' → Sat g w' (hp' ++ H) → R (.returned (i64 (((onceS m.names t).2 : Nat) : Int))) w') : Tr P F.code_once [ptr b 3, str t] w R := by
  obtain ⟨vU, cU, hU, hI, vL, hL, vN, hN, vS, hSe, vX, hur, hgU, hgL, hgN, hgS, hX, rfl⟩ := id hM
  have h1 : Sat g w ((b, mkO sel vU vL vN vS vX) :: ((hU ++ (hI ++ hL)) ++ (hN ++ (hSe ++ H)))) := by simpa using hS
  refine c_once (o := 3) (C := [str sel, vU, vL, vN, vS, vX]) (l := m.names) (by simp) rfl hgN (by unfold tot at ht; omega) h1.pull1 fun v' hp' w' hg' h' => ?_
  refine hR ((b, mkO sel vU vL v' vS vX) :: (hU ++ (hI ++ (hL ++ (hp' ++ hSe))))) w' ⟨vU, cU, hU, hI, vL, hL, v', hp', vS, hSe, vX, hur, hgU, hgL, hg', hgS, hX, rfl⟩ ?_
  simpa using Sat.pull1 (A := hp') (hp := hU ++ (hI ++ hL)) h'

theorem c_onceS {sel : List UInt8} {b : Nat} {m : MK} {t : List UInt8} (hM : MR g sel b m hp) (ht : tot m ≤ 1073741824) (hS : Sat g w (hp ++ H))
    (hR : ∀ hp' w', MR g sel b { m with sels := (onceS m.sels t).1 } hp' → Sat g w' (hp' ++ H) → R (.returned (i64 (((onceS m.sels t).2 : Nat) : Int))) w') : Tr P F.code_once [ptr b 4, str t] w R := by
  obtain ⟨vU, cU, hU, hI, vL, hL, vN, hN, vS, hSe, vX, hur, hgU, hgL, hgN, hgS, hX, rfl⟩ := id hM
  have h1 : Sat g w ((b, mkO sel vU vL vN vS vX) :: ((hU ++ (hI ++ (hL ++ hN))) ++ (hSe ++ H))) := by simpa using hS
  refine c_once (o := 4) (C := [str sel, vU, vL, vN, vS, vX]) (l := m.sels) (by simp) rfl hgS (by unfold tot at ht; omega) h1.pull1 fun v' hp' w' hg' h' => ?_
  refine hR ((b, mkO sel vU vL vN v' vX) :: (hU ++ (hI ++ (hL ++ (hN ++ hp'))))) w' ⟨vU, cU, hU, hI, vL, hL, vN, hN, v', hp', vX, hur, hgU, hgL, hgN, hg', hX, rfl⟩ ?_
  simpa using Sat.pull1 (A := hp') (hp := hU ++ (hI ++ (hL ++ hN))) h'

theorem c_use {sel : List UInt8} {b : Nat} {m : MK} (hM : MR g sel b m hp) (hne : m.uses ≠ []) (hS : Sat g w (hp ++ H))
    (hR : ∀ hp' w', MR g sel b (popU m) hp' → Sat g w' (hp' ++ H) → R (.returned (.agg (useC (useH m)).toArray)) w') : Tr P F.code_maker_use [ptr b 0] w R := by
  apply t_code_maker_use
  unfold d_code_maker_use
  obtain ⟨vU, cU, hU, hI, vL, hL, vN, hN, vS, hSe, vX, hur, hgU, hgL, hgN, hgS, hX, rfl⟩ := id hM
  obtain ⟨u0, us, hus⟩ : ∃ u0 us, m.uses = u0 :: us := by
    cases h : m.uses with
    | nil => exact absurd h hne
    | cons u0 us => exact ⟨u0, us, rfl⟩
  have huh : useH m = u0 := by unfold useH; rw [hus]; rfl
  rw [hus] at hX
  rw [huh] at hR
  refine hS.al fun b2 w1 h1 => ?_
  have h1 : Sat g w1 ((b2, ubx use0) :: (b, mkO sel vU vL vN vS vX) :: ((hU ++ (hI ++ (hL ++ (hN ++ hSe)))) ++ H)) := h1
  obtain ⟨xa, xc, rfl, hxc, _, _⟩ := id hX
  try simp only [↓E1, ↓E2, ↓E3, Nat.reduceAdd]
  rw [h1.ld1 5 _ (by simp)]
  try simp only [↓E1, ↓E2, ↓E3, Nat.reduceAdd]
  refine Sl.at (j := 0) hX h1 (by simp) (by decide) fun bx ox hcell => ?_
  have hcell : ∀ q x, (useC u0)[q]? = some x → g.cell? bx (ox + q) = some x := by
    intro q x hx
    refine hcell q x ?_
    simp only [Nat.zero_mul, List.drop_zero, useZ, List.map_cons, List.flatten_cons]
    rw [List.take_left' (by rfl)]
    exact hx
  refine h1.ldnI (vs := useC u0) hcell ?_
  refine h1.al fun b3 w2 h2 => ?_
  have h2 : Sat g w2 ((b3, ubx use0) :: (b2, ubx use0) :: (b, mkO sel vU vL vN vS (.slice xa (u0 :: us).length xc)) :: ((hU ++ (hI ++ (hL ++ (hN ++ hSe)))) ++ H)) := h2
  refine st_all (c := useC u0) (c2 := useC use0) h2 rfl rfl rfl fun w3 h3 => ?_
  try simp only [↓E1, ↓E2, ↓E3, Nat.reduceAdd]
  rw [h3.ld2 5 _ (by simp)]
  try simp only [↓E1, ↓E2, ↓E3, Nat.reduceAdd]
  refine slL_lo _ _ _ _ _ _ (by decide) (by simp; omega) hxc ?_
  have hf := Sl.from1 (sz := 6) hX (by simp) (by decide)
  have hf' : Sl g 6 (Value.slice (if (xc : Int) = 1 then xa else xa.map (·.add ((1 : Int).toNat * 6))) ((u0 :: us).length - (1 : Int).toNat) (xc - (1 : Int).toNat)) us.length (useZ us) := by
    have e : (useZ (u0 :: us)).drop 6 = useZ us := by
      simp only [useZ, List.map_cons, List.flatten_cons]
      exact List.drop_left' rfl
    rw [e] at hf
    exact hf
  obtain ⟨v9, hv9⟩ : ∃ v9, v9 = Value.slice (if (xc : Int) = 1 then xa else xa.map (·.add ((1 : Int).toNat * 6))) ((u0 :: us).length - (1 : Int).toNat) (xc - (1 : Int).toNat) := ⟨_, rfl⟩
  rw [← hv9] at hf' ⊢
  try simp only [↓E1, ↓E2, ↓E3, Nat.reduceAdd]
  have h4 := Sat.front (A := [(b3, _), (b2, _)]) h3
  refine st_one h4 (by rw [hv9]; rfl) (by rw [hv9]; rfl) (by simp) fun w5 h5 => ?_
  have h6 := h5.swap2
  refine h6.ldn0 (c := useC u0) rfl ?_
  have h7 := Sat.front (A := [(b3, _), (b, _)]) h6
  refine st_all (c := useC u0) (c2 := useC use0) h7 rfl rfl rfl fun w8 h8 => ?_
  refine h8.ldn0 (c := useC u0) rfl ?_
  refine hR ((b, mkO sel vU vL vN vS v9) :: (hU ++ (hI ++ (hL ++ (hN ++ hSe))))) w8 ⟨vU, cU, hU, hI, vL, hL, vN, hN, vS, hSe, v9, hur, hgU, hgL, hgN, hgS, ?_, rfl⟩ (by simpa using h8.tail.tail)
  show Sl g 6 v9 (m.uses.tail).length (useZ m.uses.tail)
  rw [hus]
  exact hf'
end Go.Vx
namespace Go.Vx

mutual
/-- How many names a part uses. -/
def nU : Node → Nat
  | .mk k _ _ _ _ ks => (bif Nat.beq k 5 || Nat.beq k 6 then 1 else 0) + nUs ks
def nUs : List Node → Nat
  | [] => 0
  | k :: ks => nU k + nUs ks
end

/-- Names have no parts. -/
inductive OkV : Node → Prop
  | mk {k p n : Nat} {t : List UInt8} {ns : List (List UInt8)} {ks : List Node} (h : k = 5 → ks = []) (h2 : ∀ x ∈ ks, OkV x) : OkV (.mk k t p n ns ks)
theorem okV_of : ∀ n : Node, (OkE n → OkV n) ∧ (OkM n → OkV n) ∧ (OkS n → OkV n) ∧ (LitN n → OkV n) := by
  refine Node.ind fun k t p n ns ks ih => ?_
  have hE : OkE (.mk k t p n ns ks) → OkV (.mk k t p n ns ks) := by
    intro h
    cases h with
    | leaf h => exact .mk (fun _ => rfl) (by simp)
    | list h => exact .mk (by omega) fun x hx => (ih x hx).2.2.2 (h x hx)
    | var => exact .mk (fun _ => rfl) (by simp)
    | set h => exact .mk (by omega) fun x hx => (ih x hx).1 (by rw [List.mem_singleton.1 hx]; exact h)
    | send h1 h2 => exact .mk (by omega) fun x hx => (ih x hx).1 (by
        rcases List.mem_cons.1 hx with e | hx
        · rw [e]; exact h1
        · exact h2 x hx)
    | casc h1 _ h3 =>
      refine .mk (by omega) fun x hx => ?_
      rcases List.mem_cons.1 hx with e | hx'
      · exact (ih x hx).1 (by rw [e]; exact h1)
      · exact (ih x hx).2.1 (h3 x hx')
    | blk _ h2 => exact .mk (by omega) fun x hx => (ih x hx).2.2.1 (h2 x hx)
  refine ⟨hE, fun h => ?_, fun h => ?_, fun h => ?_⟩
  · cases h with
    | mk h => exact .mk (by omega) fun x hx => (ih x hx).1 (h x hx)
  · cases h with
    | expr h => exact hE h
    | ret h => exact .mk (by omega) fun x hx => (ih x hx).1 (by rw [List.mem_singleton.1 hx]; exact h)
  · cases h with
    | leaf h => exact .mk (fun _ => rfl) (by simp)
    | list h => exact .mk (by omega) fun x hx => (ih x hx).2.2.2 (h x hx)

theorem partsU_len {slots : List (List UInt8)} {ks : List Node} (ih : ∀ x ∈ ks, ∀ fs to acc acc', partU slots x fs to acc = .ok acc' → acc'.length = acc.length + nU x) : ∀ fs rcv first acc acc', partsU slots ks fs rcv first acc = .ok acc' → acc'.length = acc.length + nUs ks := by
  induction ks with
  | nil =>
    intro fs rcv first acc acc' h
    simp only [partsU] at h
    injection h with h
    subst h
    rfl
  | cons k ks ihk =>
    intro fs rcv first acc acc' h
    simp only [partsU] at h
    cases h1 : partU slots k fs (rcv && first) acc with
    | error p => rw [h1] at h; simp at h
    | ok a =>
      rw [h1] at h
      have h3 := ih k (by simp) _ _ _ _ h1
      have h4 := ihk (fun x hx => ih x (by simp [hx])) _ _ _ _ _ h
      simp only [nUs]
      omega

theorem partU_len {slots : List (List UInt8)} : ∀ n : Node, OkV n → ∀ fs to acc acc', partU slots n fs to acc = .ok acc' → acc'.length = acc.length + nU n := by
  refine Node.ind fun k t p n ns ks ih => ?_
  intro hv fs to acc acc' h
  cases hv with
  | mk h5k hks =>
  have ih' : ∀ x ∈ ks, ∀ fs to acc acc', partU slots x fs to acc = .ok acc' → acc'.length = acc.length + nU x := fun x hx => ih x hx (hks x hx)
  simp only [partU] at h
  simp only [nU]
  cases h5 : Nat.beq k 5
  · rw [h5] at h
    simp only [cond_false, Bool.false_or] at h ⊢
    cases h6 : Nat.beq k 6
    · rw [h6] at h
      simp only [cond_false] at h ⊢
      cases h10 : Nat.beq k 10
      · rw [h10] at h
        simp only [cond_false] at h
        have := partsU_len ih' _ _ _ _ _ h
        omega
      · rw [h10] at h
        simp only [cond_true] at h
        cases hno : namesOK [] ns
        · rw [hno] at h
          simp at h
        · rw [hno] at h
          simp only [cond_true] at h
          have := partsU_len ih' _ _ _ _ _ h
          omega
    · rw [h6] at h
      simp only [cond_true] at h ⊢
      rcases cond_or h with ⟨_, h⟩ | ⟨_, h⟩
      · simp at h
      · have := partsU_len ih' _ _ _ _ _ h
        simp at this
        omega
  · rw [h5] at h
    have hk0 := h5k (Nat.eq_of_beq_eq_true h5)
    subst hk0
    simp only [cond_true, Bool.true_or, nUs] at h ⊢
    rcases cond_or h with ⟨_, h⟩ | ⟨_, h⟩
    · simp at h
    · injection h with h
      subst h
      simp

theorem resolve_len {slots : List (List UInt8)} {k p n : Nat} {t : List UInt8} {ns : List (List UInt8)} {ks : List Node} {l : List Use} (hv : ∀ x ∈ ks, OkV x) (h : resolveS slots (.mk k t p n ns ks) = .ok l) : l.length = nUs ks := by
  simp only [resolveS] at h
  rcases cond_or h with ⟨_, h⟩ | ⟨_, h⟩
  · have := partsU_len (fun x hx => partU_len x (hv x hx)) _ _ _ _ _ h
    simpa using this
  · simp at h

/-! ### How a maker grows -/
/-- At most so many names used, units stay, at most so much more. -/
structure Le (m r : MK) (k s : Nat) : Prop where
  uses : m.uses.length ≤ r.uses.length + k
  units : m.units.length ≤ r.units.length
  tot : tot r ≤ tot m + s
theorem Le.refl (m : MK) : Le m m 0 0 := ⟨by simp, Nat.le_refl _, Nat.le_refl _⟩
theorem Le.trans {m r q : MK} {k s k' s' : Nat} (h : Le m r k s) (h' : Le r q k' s') : Le m q (k + k') (s + s') :=
  ⟨by have := h.uses; have := h'.uses; omega, Nat.le_trans h.units h'.units, by have := h.tot; have := h'.tot; omega⟩
theorem Le.weak {m r : MK} {k s k' s' : Nat} (h : Le m r k s) (hk : k ≤ k') (hs : s ≤ s') : Le m r k' s' := ⟨by have := h.uses; omega, h.units, by have := h.tot; omega⟩

theorem modU_len (l : List CU) (u : Nat) (i : Ins) : (modU l u i).length = l.length := by
  induction l generalizing u with
  | nil => rfl
  | cons y l ih => cases u <;> simp [modU, ih]
theorem insT_mod (l : List CU) (u : Nat) (i : Ins) : insT (modU l u i) ≤ insT l + 1 := by
  induction l generalizing u with
  | nil => simp [modU, insT]
  | cons y l ih =>
    cases u with
    | zero => simp only [modU, insT, List.length_append, List.length_cons, List.length_nil]; omega
    | succ u => have := ih u; simp only [modU, insT]; omega
theorem insT_app (a b : List CU) : insT (a ++ b) = insT a + insT b := by
  induction a with
  | nil => simp [insT]
  | cons x a ih => simp only [List.cons_append, insT, ih]; omega
theorem le_add (m : MK) (u : Nat) (i : Ins) : Le m (addI m u i) 0 1 := by
  refine ⟨Nat.le_refl _, ?_, ?_⟩
  · show m.units.length ≤ (modU m.units u i).length
    rw [modU_len]
    exact Nat.le_refl _
  · have h1 := insT_mod m.units u i
    have h2 := modU_len m.units u i
    show insT (modU m.units u i) + (modU m.units u i).length + m.lits.length + m.names.length + m.sels.length ≤ insT m.units + m.units.length + m.lits.length + m.names.length + m.sels.length + 1
    omega
theorem le_pop (m : MK) : Le m (popU m) 1 0 := by
  refine ⟨?_, Nat.le_refl _, Nat.le_refl _⟩
  show m.uses.length ≤ m.uses.tail.length + 1
  rw [List.length_tail]
  omega
theorem once_le (l : List (List UInt8)) (t : List UInt8) : (onceS l t).1.length ≤ l.length + 1 := by
  unfold onceS
  split <;> simp
theorem le_lit (m : MK) (t : List UInt8) : Le m { m with lits := (onceS m.lits t).1 } 0 1 := by
  have := once_le m.lits t
  refine ⟨Nat.le_refl _, Nat.le_refl _, ?_⟩
  simp only [tot]
  omega
theorem le_name (m : MK) (t : List UInt8) : Le m { m with names := (onceS m.names t).1 } 0 1 := by
  have := once_le m.names t
  refine ⟨Nat.le_refl _, Nat.le_refl _, ?_⟩
  simp only [tot]
  omega
theorem le_sel (m : MK) (t : List UInt8) : Le m { m with sels := (onceS m.sels t).1 } 0 1 := by
  have := once_le m.sels t
  refine ⟨Nat.le_refl _, Nat.le_refl _, ?_⟩
  simp only [tot]
  omega
theorem le_push (m : MK) (a n : Nat) : Le m { m with units := m.units ++ [⟨a, n, []⟩] } 0 1 := by
  refine ⟨Nat.le_refl _, by simp, ?_⟩
  simp only [tot, insT_app, insT, List.length_append, List.length_cons, List.length_nil]
  omega
theorem le_nameC (u : Nat) (m : MK) : Le m (nameC u m) 1 2 := by
  unfold nameC
  simp only []
  have h0 := le_pop m
  cases (useH m).kind == 2
  · cases (useH m).kind == 3
    · cases (useH m).kind == 4
      · cases (useH m).kind == 5
        · exact (h0.trans (le_add _ _ _)).weak (by omega) (by omega)
        · exact (h0.trans ((le_name _ _).trans (le_add _ _ _))).weak (by omega) (by omega)
      · exact (h0.trans (le_add _ _ _)).weak (by omega) (by omega)
    · exact (h0.trans (le_add _ _ _)).weak (by omega) (by omega)
  · exact (h0.trans (le_add _ _ _)).weak (by omega) (by omega)
theorem le_send (u : Nat) (sup : Bool) (sel : List UInt8) (n : Nat) (m : MK) : Le m (sendC u sup sel n m) 0 2 := (le_sel m sel).trans (le_add _ _ _)

def LawP (n : Node) : Prop := ∀ u m, Le m (partC n u m) (nU n) (16 * msr n - 4)

theorem le_parts {ks : List Node} (ih : ∀ x ∈ ks, LawP x) : ∀ u m, Le m (partsC ks u m) (nUs ks) (16 * msrs ks) := by
  induction ks with
  | nil => intro u m; exact Le.refl m
  | cons k ks ihk =>
    intro u m
    have hp := msr_pos k
    simp only [partsC, nUs, msrs]
    exact ((ih k (by simp) u m).trans (ihk (fun x hx => ih x (by simp [hx])) u _)).weak (Nat.le_refl _) (by omega)
theorem le_head {ks : List Node} (ih : ∀ x ∈ ks, LawP x) (u : Nat) (m : MK) : Le m (headC ks u m) (nUs ks) (16 * msrs ks) := by
  cases ks with
  | nil => exact Le.refl m
  | cons k ks =>
    have hp := msr_pos k
    simp only [headC, nUs, msrs]
    exact (ih k (by simp) u m).weak (by omega) (by omega)

/-- Of a part, and of what it holds. -/
def LawQ (n : Node) : Prop := LawP n ∧ (∀ u sup m, Le m (msgC n u sup m) (nUs n.kids) (16 * msrs n.kids + 2)) ∧ (∀ u m, Le m (retC n u m) (nUs n.kids) (16 * msrs n.kids))
theorem nUs_kids (n : Node) : nUs n.kids ≤ nU n := by
  obtain ⟨k, t, p, c, ns, ks⟩ := n
  simp only [nU, Node.kids]
  omega
theorem msrs_kids (n : Node) : msrs n.kids + 1 ≤ msr n := by cases n; simp only [msr, Node.kids]; omega

theorem le_casc {ks : List Node} (ih : ∀ x ∈ ks, LawQ x) : ∀ u sup m, Le m (cascC ks u sup m) (nUs ks) (16 * msrs ks) := by
  induction ks with
  | nil => intro u sup m; exact Le.refl m
  | cons k ks ihk =>
    intro u sup m
    have h1 := fun m => (ih k (by simp)).2.1 u sup m
    have h2 := nUs_kids k
    have h3 := msrs_kids k
    simp only [cascC, nUs, msrs]
    cases ks.isEmpty
    · simp only [cond_false]
      have h4 := ihk (fun x hx => ih x (by simp [hx])) u sup
      exact ((le_add m u ⟨11, 0, 0⟩).trans ((h1 _).trans ((le_add _ u ⟨12, 0, 0⟩).trans (h4 _)))).weak (by omega) (by omega)
    · exact (h1 m).weak (by omega) (by omega)

theorem le_stmts {ks : List Node} (ih : ∀ x ∈ ks, LawQ x) : ∀ u first m, Le m (stmtsC ks u first m).1 (nUs ks) (16 * msrs ks) := by
  induction ks with
  | nil => intro u first m; exact Le.refl m
  | cons k ks ihk =>
    intro u first m
    have h2 := nUs_kids k
    have h3 := msrs_kids k
    have h0 : Le m (bif first then m else addI m u ⟨12, 0, 0⟩) 0 1 := by
      cases first
      · exact le_add _ _ _
      · exact (Le.refl m).weak (Nat.le_refl _) (by omega)
    simp only [stmtsC, nUs, msrs, List.length_cons]
    generalize (bif first then m else addI m u ⟨12, 0, 0⟩) = m1 at h0
    cases Nat.beq k.kind 11
    · simp only [cond_false]
      exact (h0.trans (((ih k (by simp)).1 u m1).trans (ihk (fun x hx => ih x (by simp [hx])) u false _))).weak (by omega) (by omega)
    · simp only [cond_true]
      exact (h0.trans (((ih k (by simp)).2.2 u m1).trans (le_add _ _ _))).weak (by omega) (by omega)

theorem le_unitOf {k n names kids : Nat} {t : List UInt8} {st : Nat → MK → MK × Bool} {a s : Nat} (h : ∀ u m, Le m (st u m).1 a s) (m : MK) : Le m (unitOf k t n names kids st m) a (s + 4) := by
  unfold unitOf
  simp only []
  have h1 := (le_push m n names).trans (h m.units.length { m with units := m.units ++ [⟨n, names, []⟩] })
  generalize st m.units.length { m with units := m.units ++ [⟨n, names, []⟩] } = r at h1
  have hc : ∀ (q : Bool) (x : MK) (u : Nat) (i : Ins), Le x (bif q then x else addI x u i) 0 1 := by
    intro q x u i
    cases q
    · exact le_add _ _ _
    · exact (Le.refl x).weak (Nat.le_refl _) (by omega)
  have hc' : ∀ (q : Bool) (x : MK) (u : Nat) (i : Ins), Le x (bif q then addI x u i else x) 0 1 := by
    intro q x u i
    cases q
    · exact (Le.refl x).weak (Nat.le_refl _) (by omega)
    · exact le_add _ _ _
  cases r.2
  · simp only [cond_false]
    cases Nat.beq k 12 && !t.isEmpty
    · simp only [cond_false]
      exact (h1.trans ((hc' _ _ _ _).trans (le_add _ _ _))).weak (by omega) (by omega)
    · simp only [cond_true]
      exact (h1.trans ((hc _ _ _ _).trans ((le_add _ _ _).trans (le_add _ _ _)))).weak (by omega) (by omega)
  · simp only [cond_true]
    exact h1.weak (by omega) (by omega)

theorem le_part : ∀ n, LawQ n := by
  refine Node.ind fun k t p n ns ks ih => ?_
  have ihP : ∀ x ∈ ks, LawP x := fun x hx => (ih x hx).1
  refine ⟨fun u m => ?_, fun u sup m => ?_, fun u m => ?_⟩
  · simp only [partC, nU, msr]
    have hlen := len_msrs ks
    rcases hb : (Nat.beq k 1 || (Nat.beq k 2 || (Nat.beq k 3 || Nat.beq k 4))) with _ | _
    · simp only [cond_false]
      cases h5 : Nat.beq k 5
      · simp only [cond_false, Bool.false_or]
        cases h6 : Nat.beq k 6
        · simp only [cond_false]
          cases h7 : Nat.beq k 7
          · simp only [cond_false]
            cases h8 : Nat.beq k 8
            · simp only [cond_false]
              cases h10 : Nat.beq k 10
              · simp only [cond_false]
                exact (Le.refl m).weak (by omega) (by omega)
              · simp only [cond_true]
                exact ((le_add m u _).trans (le_unitOf (fun u m => le_stmts ih u true m) _)).weak (by omega) (by omega)
            · simp only [cond_true]
              cases ks with
              | nil => exact (Le.refl m).weak (by omega) (by omega)
              | cons r ms =>
                have hp := msr_pos r
                simp only [cascT, nUs, msrs]
                exact ((ihP r (by simp) u m).trans (le_casc (fun x hx => ih x (by simp [hx])) u _ _)).weak (by omega) (by omega)
          · simp only [cond_true]
            exact ((le_parts ihP u m).trans (le_send _ _ _ _ _)).weak (by omega) (by omega)
        · simp only [cond_true]
          have h := (le_pop m).trans (le_head ihP u (popU m))
          cases (useH m).kind == 3
          · exact (h.trans (le_add _ _ _)).weak (by omega) (by omega)
          · exact (h.trans (le_add _ _ _)).weak (by omega) (by omega)
      · simp only [cond_true, Bool.true_or]
        exact (le_nameC u m).weak (by omega) (by omega)
    · simp only [cond_true]
      exact ((le_lit m _).trans (le_add _ _ _)).weak (by omega) (by omega)
  · simp only [msgC, Node.kids]
    exact ((le_parts ihP u m).trans (le_send _ _ _ _ _)).weak (by omega) (by omega)
  · simp only [retC, Node.kids]
    exact le_head ihP u m
end Go.Vx
namespace Go.Vx
open Go Go.Proofs
variable {R : Ending → World → Prop} {g : G} {w : World} {H hp T : Hp}

def PartM (n : Node) : Prop := ∀ {g : G} {w : World} {H hp : Hp} {R : Ending → World → Prop} {sel : List UInt8} {b u : Nat} {m : MK} {c : List Value},
  NodeR g c n → MR g sel b m hp → u < m.units.length → nU n ≤ m.uses.length → tot m + 16 * msr n ≤ 1073741824 → Sat g w (hp ++ H) →
  (∀ hp' w', MR g sel b (partC n u m) hp' → Sat g w' (hp' ++ H) → R (.returned (.tuple #[])) w') → Tr P F.code_maker_part [ptr b 0, i64 (u : Int), .agg c.toArray] w R
def UnitM (n : Node) : Prop := ∀ {g : G} {w : World} {H hp : Hp} {R : Ending → World → Prop} {sel : List UInt8} {b : Nat} {m : MK} {c : List Value},
  NodeR g c n → MR g sel b m hp → nU n ≤ m.uses.length → tot m + 16 * msr n ≤ 1073741828 → Sat g w (hp ++ H) →
  (∀ hp' w', MR g sel b (unitC n m) hp' → Sat g w' (hp' ++ H) → R (.returned (.tuple #[])) w') → Tr P F.code_maker_unit [ptr b 0, .agg c.toArray] w R

theorem c_mname {sel : List UInt8} {b u : Nat} {m : MK} (hM : MR g sel b m hp) (hu : u < m.units.length) (hne : m.uses ≠ []) (ht : tot m + 2 ≤ 1073741824) (hS : Sat g w (hp ++ H))
    (hR : ∀ hp' w', MR g sel b (nameC u m) hp' → Sat g w' (hp' ++ H) → R (.returned (.tuple #[])) w') : Tr P F.code_maker_name [ptr b 0, i64 (u : Int)] w R := by
  apply t_code_maker_name
  unfold d_code_maker_name
  refine c_use hM hne hS fun hp1 w1 hM1 h1 => ?_
  try simp only [↓E3]
  refine h1.al fun b4 w2 h2 => ?_
  have h2 : Sat g w2 ((b4, ubx use0) :: (hp1 ++ H)) := h2
  refine st_all (c := useC (useH m)) (c2 := useC use0) h2 rfl rfl rfl fun w3 h3 => ?_
  have hle := le_pop m
  have hu1 : u < (popU m).units.length := hu
  have ht1 : tot (popU m) + 2 ≤ 1073741824 := by have := hle.tot; omega
  unfold nameC at hR
  simp only [] at hR
  generalize useH m = x at h3 hR
  generalize popU m = m1 at hM1 hR hu1 ht1
  have q2 : (useC x).getD 2 undef = i64 x.kind := rfl
  have q3 : (useC x).getD 3 undef = i64 (x.depth : Int) := rfl
  have q4 : (useC x).getD 4 undef = i64 (x.index : Int) := rfl
  have q1 : (useC x).getD 1 undef = str x.name := rfl
  have ul : 5 < (useC x).length := by simp [useC]
  have toM : ∀ {w' : World} {hp' : Hp}, Sat g w' ((b4, ubx x) :: (hp' ++ H)) → Sat g w' (hp' ++ ((b4, ubx x) :: H)) := fun h => h.perm List.perm_middle.symm
  -- a step is put
  have add : ∀ (op a bb : Nat) (m2 : MK) (hp2 : Hp) (w' : World), MR g sel b m2 hp2 → u < m2.units.length → tot m2 ≤ 1073741824 → Sat g w' (hp2 ++ ((b4, ubx x) :: H)) → (∀ hp' w', MR g sel b (addI m2 u ⟨op, a, bb⟩) hp' → Sat g w' (hp' ++ H) → R (.returned (.tuple #[])) w') →
      Tr P F.code_maker_add [ptr b 0, i64 (u : Int), i64 (op : Int), i64 (a : Int), i64 (bb : Int)] w' (Vx.back (fun _ w => R (.returned (.tuple #[])) w) (fun ch w => R (.panicked ch) w)) := by
    intro op a bb m2 hp2 w' hM2 hu2 ht2 h hr
    refine c_add hM2 hu2 ht2 h fun hp' w'' hM' h' => ?_
    try simp only [↓E3]
    exact hr hp' w'' hM' (Sat.del h')
  try simp only [↓E1, ↓E2, ↓E3, Nat.reduceAdd]
  rw [h3.ld0 2 _ (by omega), q2]
  try simp only [↓E1, ↓E2, ↓E3, Nat.reduceAdd]
  rw [cnd_dec]
  constructor
  · intro hk
    rw [hk] at hR
    try simp only [↓E1, ↓E2, ↓E3, Nat.reduceAdd]
    rw [h3.ld0 4 _ (by omega), q4]
    try simp only [↓E1, ↓E2, ↓E3, Nat.reduceAdd]
    exact add 7 x.index 0 m1 hp1 w3 hM1 hu1 (by omega) (toM h3) hR
  intro hk
  have e2 : (x.kind == 2) = false := beq_eq_false_iff_ne.2 hk
  rw [e2] at hR
  try simp only [↓E1, ↓E2, ↓E3, Nat.reduceAdd]
  rw [cnd_dec]
  constructor
  · intro hk
    rw [hk] at hR
    try simp only [↓E1, ↓E2, ↓E3, Nat.reduceAdd]
    rw [h3.ld0 3 _ (by omega), q3]
    try simp only [↓E1, ↓E2, ↓E3, Nat.reduceAdd]
    rw [h3.ld0 4 _ (by omega), q4]
    try simp only [↓E1, ↓E2, ↓E3, Nat.reduceAdd]
    exact add 1 x.depth x.index m1 hp1 w3 hM1 hu1 (by omega) (toM h3) hR
  intro hk
  have e3 : (x.kind == 3) = false := beq_eq_false_iff_ne.2 hk
  rw [e3] at hR
  try simp only [↓E1, ↓E2, ↓E3, Nat.reduceAdd]
  rw [cnd_dec]
  constructor
  · intro hk
    rw [hk] at hR
    try simp only [↓E1, ↓E2, ↓E3, Nat.reduceAdd]
    rw [h3.ld0 4 _ (by omega), q4]
    try simp only [↓E1, ↓E2, ↓E3, Nat.reduceAdd]
    exact add 3 x.index 0 m1 hp1 w3 hM1 hu1 (by omega) (toM h3) hR
  intro hk
  have e4 : (x.kind == 4) = false := beq_eq_false_iff_ne.2 hk
  rw [e4] at hR
  try simp only [↓E1, ↓E2, ↓E3, Nat.reduceAdd]
  rw [cnd_dec]
  constructor
  · intro hk
    rw [hk] at hR
    have h4 := h3.drew
    try simp only [↓E1, ↓E2, ↓E3, Nat.reduceAdd]
    rw [h4.ld0 1 _ (by omega), q1]
    try simp only [↓E1, ↓E2, ↓E3, Nat.reduceAdd]
    refine c_onceN hM1 (by omega) (toM h4) fun hp5 w5 hM5 h5 => ?_
    try simp only [↓E1, ↓E2, ↓E3, Nat.reduceAdd]
    exact add 5 _ 0 _ hp5 w5 hM5 hu1 (by have := (le_name m1 x.name).tot; omega) h5 hR
  · intro hk
    have e5 : (x.kind == 5) = false := beq_eq_false_iff_ne.2 hk
    rw [e5] at hR
    exact add 6 0 0 m1 hp1 w3 hM1 hu1 (by omega) (toM h3) hR

/-- Where a part lies. -/
theorem KR.atI {kv : Value} {ks : List Node} {kcs : List (List Value)} {n : Nat} (hn : n ≤ ks.length) (hk : Sl g 6 kv n (kcs.flatten.take (n * 6))) (hr : KR g kcs ks) {i : Nat} {k : Node} (hin : i < n) (hi : ks[i]? = some k) (hS : Sat g w H) {K : Value → World → Prop}
    (hK : ∀ b o c, NodeR g c k → (∀ q x, c[q]? = some x → g.cell? b (o + q) = some x) → K (ptr b o) w) : ia 6 kv (i64 (i : Int)) K w := by
  have hlt := (List.getElem?_eq_some_iff.1 hi).1
  obtain ⟨c, hc⟩ : ∃ c, kcs[i]? = some c := ⟨_, List.getElem?_eq_getElem (by rw [hr.1]; exact hlt)⟩
  have hnr := hr.2 i c k hc hi
  refine Sl.at hk hS hin (by decide) fun b o hcell => hK b o c hnr fun q x hx => hcell q x ?_
  have hlen := hnr.len
  have key : ∀ (kcs : List (List Value)) (ks : List Node) (i : Nat), KR g kcs ks → kcs[i]? = some c → (kcs.flatten.drop (i * 6)).take 6 = c := by
    intro kcs
    induction kcs with
    | nil => intro ks i _ h; simp at h
    | cons a kcs ih =>
      intro ks i hr h
      cases ks with
      | nil => have := hr.1; simp at this
      | cons k0 ks =>
        have ha := (hr.2 0 a k0 rfl rfl).len
        cases i with
        | zero =>
          simp only [List.getElem?_cons_zero, Option.some.injEq] at h
          subst h
          simp only [Nat.zero_mul, List.drop_zero, List.flatten_cons]
          rw [← ha, List.take_left']
          rfl
        | succ i =>
          have := ih ks i ⟨by simpa using hr.1, fun j c' k' h1 h2 => hr.2 (j + 1) c' k' (by simpa using h1) (by simpa using h2)⟩ (by simpa using h)
          rw [List.flatten_cons, show (i + 1) * 6 = a.length + i * 6 from by rw [ha]; omega, ← List.drop_drop, List.drop_left']
          · exact this
          · rfl
  have h6 := key kcs ks i hr hc
  have e : ((kcs.flatten.take (n * 6)).drop (i * 6)).take 6 = c := by
    rw [List.drop_take, List.take_take, Nat.min_eq_left (by omega), h6]
  rw [e]
  exact hx

theorem KR.ldI {kv : Value} {ks : List Node} {kcs : List (List Value)} {n : Nat} (hn : n ≤ ks.length) (hk : Sl g 6 kv n (kcs.flatten.take (n * 6))) (hr : KR g kcs ks) {i : Nat} {k : Node} (hin : i < n) (hi : ks[i]? = some k) (hS : Sat g w H) {K : Value → World → Prop}
    (hK : ∀ c, NodeR g c k → K (.agg c.toArray) w) : ia 6 kv (i64 (i : Int)) (fun t w => ldn 6 t K w) w := by
  refine hr.atI hn hk hin hi hS fun b o c hc hcell => ?_
  have := hS.ldnI (b := b) (o := o) (vs := c) (K := K) hcell (hK c hc)
  rw [hc.len] at this
  exact this

theorem KR.flatLen {kcs : List (List Value)} {ks : List Node} (hr : KR g kcs ks) : kcs.flatten.take (ks.length * 6) = kcs.flatten := by
  rw [List.take_of_length_le (by rw [hr.flat]; exact Nat.le_refl _)]

/-- Arguments, and a message to what is below them. -/
theorem c_send {sel t : List UInt8} {b u : Nat} {m : MK} {cr : List Value} {r : Node} {kv : Value} {ks : List Node} {kcs : List (List Value)} (ih : ∀ x ∈ ks, PartM x) (hr : NodeR g cr r) (hkv : Sl g 6 kv ks.length kcs.flatten) (hkr : KR g kcs ks) (hM : MR g sel b m hp) (hu : u < m.units.length)
    (hn : nUs ks ≤ m.uses.length) (ht : tot m + 16 * msrs ks + 2 ≤ 1073741824) (hS : Sat g w (hp ++ H))
    (hR : ∀ hp' w', MR g sel b (sendC u (isSuper r) t ks.length (partsC ks u m)) hp' → Sat g w' (hp' ++ H) → R (.returned (.tuple #[])) w') : Tr P F.code_maker_send [ptr b 0, i64 (u : Int), .agg cr.toArray, str t, kv] w R := by
  apply t_code_maker_send
  unfold d_code_maker_send
  have hrl := hr.len
  refine hS.al fun b7 w1 h1 => ?_
  have h1 : Sat g w1 ((b7, box cr) :: (hp ++ H)) := by
    have e : (Value.agg cr.toArray).cells.toList = cr := by simp [Value.cells]
    rw [e] at h1
    exact h1
  obtain ⟨ka, kc, rfl, _, _, _⟩ := id hkv
  have hkl2 := len_msrs ks
  have hkv' : Sl g 6 (.slice ka ks.length kc) ks.length (kcs.flatten.take (ks.length * 6)) := by rw [hkr.flatLen]; exact hkv
  try simp only [↓E2]
  refine lp1 (fun q x w' => ∃ i m' hp', x = i64 ((i : Nat) : Int) ∧ q = ks.length - i ∧ i ≤ ks.length ∧ MR g sel b m' hp' ∧ u < m'.units.length ∧ nUs (ks.drop i) ≤ m'.uses.length ∧ tot m' + 16 * msrs (ks.drop i) + 2 ≤ 1073741824 ∧
      partsC (ks.drop i) u m' = partsC ks u m ∧ Sat g w' ((b7, box cr) :: (hp' ++ H))) ks.length
    ⟨0, m, hp, rfl, rfl, by omega, hM, hu, hn, ht, rfl, h1⟩ ?_
  rintro q x w2 ⟨i, m2, hp2, rfl, rfl, hi, hM2, hu2, hn2, ht2, hp2e, h2⟩
  try simp only [↓E1, ↓E2, ↓E3]
  rw [cnd_dec]
  constructor
  · intro hlt
    obtain ⟨x, hx⟩ : ∃ x, ks[i]? = some x := ⟨_, List.getElem?_eq_getElem (by omega)⟩
    have hxm : x ∈ ks := List.mem_of_getElem? hx
    refine hkr.ldI (Nat.le_refl _) hkv' (by omega) hx h2 fun c5 hc5 => ?_
    refine h2.al fun b11 w3 h3 => ?_
    refine st_box (c2 := zN) h3 hc5.len rfl hc5.one fun w4 h4 => ?_
    refine h4.ldn0 (c := c5) hc5.len.symm ?_
    have hdr : ks.drop i = x :: ks.drop (i + 1) := by
      rw [List.drop_eq_getElem_cons (List.getElem?_eq_some_iff.1 hx).1, (List.getElem?_eq_some_iff.1 hx).2]
    rw [hdr] at hn2 ht2 hp2e
    simp only [msrs, nUs, partsC] at hn2 ht2 hp2e
    have hpos := msr_pos x
    have hle := (le_part x).1 u m2
    try simp only [↓E1, ↓E2, ↓E3]
    refine ih x hxm hc5 hM2 hu2 (by omega) (by omega) (h4.tail.perm List.perm_middle.symm) fun hp5 w5 hM5 h5 => ?_
    try simp only [↓E1, ↓E2, ↓E3]
    rw [wrap64_succ (by omega)]
    have l1 := hle.uses
    have l2 := hle.units
    have l3 := hle.tot
    exact ⟨ks.length - (i + 1), by omega, _, rfl, i + 1, _, hp5, rfl, rfl, by omega, hM5, by omega, by omega, by omega, hp2e, h5.perm List.perm_middle⟩
  · intro hge
    have : i = ks.length := by omega
    subst this
    rw [List.drop_length] at hp2e
    simp only [partsC] at hp2e
    rw [← hp2e] at hR
    simp only [List.drop_length, msrs] at ht2
    refine jn1 (fun x w' => x = i64 (((bif isSuper r then 9 else 8 : Nat)) : Int) ∧ w' = w2) ?_ ?_
    · rintro x w' ⟨rfl, rfl⟩
      try simp only [↓E1, ↓E2, ↓E3, Nat.reduceAdd]
      refine c_onceS hM2 (by omega) (h2.perm List.perm_middle.symm) fun hp3 w3 hM3 h3 => ?_
      try simp only [↓E1, ↓E2, ↓E3, Nat.reduceAdd]
      refine c_add hM3 hu2 (by have := (le_sel m2 t).tot; omega) h3 fun hp4 w4 hM4 h4 => ?_
      try simp only [↓E3]
      exact hR hp4 w4 hM4 (Sat.del h4)
    · intro k2 hk2
      cases hr with
      | @mk rk rp rn rt rns rks rnv rkv rkcs _ _ _ _ =>
      try simp only [↓E1, ↓E2, ↓E3, Nat.reduceAdd]
      rw [h2.ld0 0 _ (by simp)]
      try simp only [↓E1, ↓E2, ↓E3, Nat.reduceAdd]
      rw [cnd_dec]
      constructor
      · intro hk5
        have : rk = 5 := by omega
        subst this
        try simp only [↓E1, ↓E2, ↓E3, Nat.reduceAdd]
        rw [h2.ld0 1 _ (by simp)]
        have es : (Value.string { data := #[115, 117, 112, 101, 114] }) = str superT := rfl
        try rw [es]
        try simp only [↓E1, ↓E2, ↓E3, Nat.reduceAdd]
        rw [cnd_dec]
        constructor
        · intro hs
          try simp only [↓E3]
          refine hk2 _ _ ⟨?_, rfl⟩
          have : isSuper (.mk 5 rt rp rn rns rks) = true := by
            show (Nat.beq 5 5 && rt == superT) = true
            rw [hs]; rfl
          rw [this]; rfl
        · intro hs
          try simp only [↓E3]
          refine hk2 _ _ ⟨?_, rfl⟩
          have : isSuper (.mk 5 rt rp rn rns rks) = false := by
            show (Nat.beq 5 5 && rt == superT) = false
            have : (rt == superT) = false := beq_eq_false_iff_ne.2 hs
            rw [this]; rfl
          rw [this]; rfl
      · intro hk5
        try simp only [↓E3]
        refine hk2 _ _ ⟨?_, rfl⟩
        have : isSuper (.mk rk rt rp rn rns rks) = false := by
          show (Nat.beq rk 5 && rt == superT) = false
          have : Nat.beq rk 5 = false := by
            cases hb : Nat.beq rk 5 with
            | false => rfl
            | true => have := Nat.eq_of_beq_eq_true hb; omega
          rw [this]; rfl
        rw [this]; rfl
end Go.Vx
namespace Go.Vx
open Go Go.Proofs
variable {R : Ending → World → Prop} {g : G} {w : World} {H hp T : Hp}

/-- What is to be known of a statement. -/
def StmtM (x : Node) : Prop := (Nat.beq x.kind 11 = false → PartM x) ∧ (Nat.beq x.kind 11 = true → ∃ e, x.kids = [e] ∧ PartM e)

theorem c_pushU {sel : List UInt8} {b : Nat} {m : MK} (hM : MR g sel b m hp) (a n : Nat) {K : World → Prop} (ht : tot m ≤ 1073741824) (hS : Sat g w (hp ++ H))
    (hK : ∀ hp' w', MR g sel b { m with units := m.units ++ [⟨a, n, []⟩] } hp' → Sat g w' (hp' ++ H) → K w') :
    ld (ptr b 1) (fun t19 w => bd [.int .i64 0, .int .i64 0, .slice none 0 0] [(0, 1, i64 (a : Int)), (1, 1, i64 (n : Int))] (fun t25 w =>
      bs 56 [.int .i64 0, .int .i64 0, .slice none 0 0] 1 [(0, 3, t25)] (fun t26 w => rk false (ptr b 1) t19 (ap 56 3 40 [.int .i64 0, .int .i64 0, .slice none 0 0] t19 t26 (fun t27 w => st 1 (ptr b 1) t27 K w) w) w) w) w) w := by
  obtain ⟨vU, cU, hU, hI, vL, hL, vN, hN, vS, hSe, vX, hur, hgU, hgL, hgN, hgS, hX, rfl⟩ := id hM
  have h1 : Sat g w ((b, mkO sel vU vL vN vS vX) :: (hU ++ ((hI ++ (hL ++ (hN ++ hSe))) ++ H))) := by simpa using hS
  rw [h1.ld0 1 _ (by simp)]
  refine bdI (cs := [i64 (a : Int), i64 (n : Int), .slice none 0 0]) rfl ?_
  refine h1.bs (cs := [i64 (a : Int), i64 (n : Int), .slice none 0 0]) rfl fun b26 w2 h2 => ?_
  refine h2.rk (b := b) (t := Ty.code_maker) (fr := (0, 0)) (c := [str sel, vU, vL, vN, vS, vX]) (by simp) rfl ?_
  have h3 : Sat g w2 ((b26, .cells [i64 (a : Int), i64 (n : Int), .slice none 0 0].toArray 56) :: (hU ++ ((b, mkO sel vU vL vN vS vX) :: ((hI ++ (hL ++ (hN ++ hSe))) ++ H)))) := h2.perm (.cons _ List.perm_middle.symm)
  have hml : m.units.length ≤ 1073741824 := by unfold tot at ht; omega
  refine h3.ap1 (m := 1) hgU rfl rfl rfl (by omega) (by omega) fun v' hp' w4 hg4 h4 => ?_
  have h5 : Sat g w4 ((b, mkO sel vU vL vN vS vX) :: (hp' ++ ((hI ++ (hL ++ (hN ++ hSe))) ++ H))) := h4.perm List.perm_middle
  have hv : v'.cells = #[v'] ∧ one v' = true := by obtain ⟨a, c, rfl⟩ := hg4.slice; exact ⟨rfl, rfl⟩
  refine st_one h5 hv.1 hv.2 (by simp) fun w6 h6 => ?_
  refine hK ((b, mkO sel v' vL vN vS vX) :: (hp' ++ (hI ++ (hL ++ (hN ++ hSe))))) w6 ⟨v', cU ++ [i64 (a : Int), i64 (n : Int), .slice none 0 0], hp', hI, vL, hL, vN, hN, vS, hSe, vX, hur.snoc a n, ?_, hgL, hgN, hgS, hX, rfl⟩ (by simpa using h6)
  simpa using hg4

theorem c_unitM {k p nn : Nat} {t : List UInt8} {ns : List (List UInt8)} {ks : List Node} (ih : ∀ x ∈ ks, StmtM x) : UnitM (.mk k t p nn ns ks) := by
  intro g w H hp R sel b m c hn hM hnu ht hS hR
  apply t_code_maker_unit
  unfold d_code_maker_unit
  cases hn with
  | @mk _ _ _ _ _ _ nv kv kcs hnv hkv hkl hkr =>
  have hkr : KR g kcs ks := ⟨hkl, hkr⟩
  simp only [msr] at ht
  have hnk : nUs ks ≤ m.uses.length := by have := nUs_kids (.mk k t p nn ns ks); simp only [Node.kids] at this; omega
  have hkl2 := len_msrs ks
  obtain ⟨na, nc, rfl, _, _, _⟩ := id hnv
  obtain ⟨ka, kc, rfl, _, _, _⟩ := id hkv
  obtain ⟨c, hcd⟩ : ∃ c, c = [i64 (k : Int), str t, i64 (p : Int), i64 (nn : Int), Value.slice na ns.length nc, Value.slice ka ks.length kc] := ⟨_, rfl⟩
  rw [← hcd]
  have hclen : c.length = 6 := by rw [hcd]; rfl
  have g0 : c.getD 0 undef = i64 (k : Int) := by rw [hcd]; rfl
  have g1 : c.getD 1 undef = str t := by rw [hcd]; rfl
  have g3 : c.getD 3 undef = i64 (nn : Int) := by rw [hcd]; rfl
  have g4 : c.getD 4 undef = Value.slice na ns.length nc := by rw [hcd]; rfl
  have g5 : c.getD 5 undef = Value.slice ka ks.length kc := by rw [hcd]; rfl
  clear hcd
  have hkv' : Sl g 6 (.slice ka ks.length kc) ks.length (kcs.flatten.take (ks.length * 6)) := by rw [hkr.flatLen]; exact hkv
  have hR : ∀ hp' w', MR g sel b (unitOf k t nn ns.length ks.length (fun u' m' => stmtsC ks u' true m') m) hp' → Sat g w' (hp' ++ H) → R (.returned (.tuple #[])) w' := hR
  refine hS.al fun b3 w1 h1 => ?_
  have h1 : Sat g w1 ((b3, box c) :: (hp ++ H)) := by
    have e : (Value.agg c.toArray).cells.toList = c := by simp [Value.cells]
    rw [e] at h1
    exact h1
  have toM : ∀ {x : Nat × Obj} {w' : World} {hp' : Hp}, Sat g w' (x :: (hp' ++ H)) → Sat g w' (hp' ++ (x :: H)) := fun h => h.perm List.perm_middle.symm
  have toB : ∀ {x : Nat × Obj} {w' : World} {hp' : Hp}, Sat g w' (hp' ++ (x :: H)) → Sat g w' (x :: (hp' ++ H)) := fun h => h.perm List.perm_middle
  obtain ⟨vU, cU, hU, hI, vL, hL, vN, hN, vS, hSe, vX, hur, hgU, hgL, hgN, hgS, hX, hpe⟩ := id hM
  obtain ⟨ua, uc, rfl⟩ := hgU.slice
  try simp only [↓E1, ↓E2, ↓E3, Nat.reduceAdd]
  have hbm : (b, mkO sel (.slice ua m.units.length uc) vL vN vS vX) ∈ (b3, box c) :: (hp ++ H) := by rw [hpe]; simp
  rw [h1.ldH (b := b) (c := [str sel, .slice ua m.units.length uc, vL, vN, vS, vX]) (t := Ty.code_maker) (fr := (0, 0)) hbm 1 _ (by simp)]
  try simp only [↓E1, ↓E2, ↓E3, Nat.reduceAdd]
  have h2 := h1.drew
  -- the unit
  suffices hpush : ld (ptr b 1) (fun t19 w => bd [.int .i64 0, .int .i64 0, .slice none 0 0] [(0, 1, i64 (nn : Int)), (1, 1, i64 ((ns.length : Nat) : Int))] (fun t25 w =>
      bs 56 [.int .i64 0, .int .i64 0, .slice none 0 0] 1 [(0, 3, t25)] (fun t26 w => rk false (ptr b 1) t19 (ap 56 3 40 [.int .i64 0, .int .i64 0, .slice none 0 0] t19 t26 (fun t27 w => st 1 (ptr b 1) t27 _ w) w) w) w) w) w1.drew by
    rw [h2.ldH (b := b) (c := [str sel, .slice ua m.units.length uc, vL, vN, vS, vX]) (t := Ty.code_maker) (fr := (0, 0)) hbm 1 _ (by simp)] at hpush ⊢
    rw [h2.ld0 3 _ (by omega), g3]
    try simp only [↓E1, ↓E2, ↓E3, Nat.reduceAdd]
    rw [h2.ld0 4 _ (by omega), g4]
    try simp only [↓E1, ↓E2, ↓E3, Nat.reduceAdd]
    exact hpush
  refine c_pushU hM nn ns.length (by omega) (toM h2) fun hp3 w3 hM3 h3 => ?_
  have h3 := toB h3
  have hun : unitOf k t nn ns.length ks.length (fun u' m' => stmtsC ks u' true m') m =
      (let r := stmtsC ks m.units.length true { m with units := m.units ++ [⟨nn, ns.length, []⟩] }
       bif r.2 then r.1
       else bif Nat.beq k 12 && !t.isEmpty then addI (addI (bif Nat.beq ks.length 0 then r.1 else addI r.1 m.units.length ⟨12, 0, 0⟩) m.units.length ⟨6, 0, 0⟩) m.units.length ⟨14, 0, 0⟩
       else addI (bif Nat.beq ks.length 0 then addI r.1 m.units.length ⟨7, 0, 0⟩ else r.1) m.units.length ⟨13, 0, 0⟩) := rfl
  rw [hun] at hR
  have hl1 := le_push m nn ns.length
  have hu1 : m.units.length < ({ m with units := m.units ++ [⟨nn, ns.length, []⟩] } : MK).units.length := by simp
  have hn1 : nUs ks ≤ ({ m with units := m.units ++ [⟨nn, ns.length, []⟩] } : MK).uses.length := hnk
  have ht1 : tot { m with units := m.units ++ [⟨nn, ns.length, []⟩] } + 16 * msrs ks + 8 ≤ 1073741824 := by have := hl1.tot; omega
  generalize ({ m with units := m.units ++ [⟨nn, ns.length, []⟩] } : MK) = m1 at hM3 hR hu1 hn1 ht1
  generalize hude : m.units.length = u at hR hu1
  clear hpe hbm h2 h1 hur hgU hgL hgN hgS hX hun hl1
  try simp only [↓E1, ↓E2, ↓E3, Nat.reduceAdd]
  rw [h3.ld0 5 _ (by omega), g5]
  try simp only [↓E1, ↓E2, ↓E3, Nat.reduceAdd]
  -- a step is put
  have add : ∀ (op : Nat) (m2 : MK) (X : Hp) (hp2 : Hp) (w' : World) (K : World → Prop), MR g sel b m2 hp2 → u < m2.units.length → tot m2 ≤ 1073741824 → Sat g w' (X ++ (hp2 ++ H)) → (∀ hp' w', MR g sel b (addI m2 u ⟨op, 0, 0⟩) hp' → Sat g w' (X ++ (hp' ++ H)) → K w') →
      Tr P F.code_maker_add [ptr b 0, i64 (u : Int), i64 (op : Int), i64 0, i64 0] w' (Vx.back (fun _ w => K w) (fun ch w => R (.panicked ch) w)) := by
    intro op m2 X hp2 w' K hM2 hu2 ht2 h hk
    refine c_add (a := 0) (bb := 0) (H := X ++ H) hM2 hu2 ht2 (Sat.pull h) fun hp' w'' hM' h' => ?_
    try simp only [↓E3]
    exact hk hp' w'' hM' (Sat.pull (A := hp') (hp := X) h')
  have hlen : ∀ (m2 : MK) (i : Ins), (addI m2 u i).units.length = m2.units.length := fun m2 i => modU_len _ _ _
  refine lp1 (fun q x w' => ∃ i m' hp', x = i64 ((i : Nat) : Int) ∧ q = ks.length - i ∧ i ≤ ks.length ∧ MR g sel b m' hp' ∧ u < m'.units.length ∧ nUs (ks.drop i) ≤ m'.uses.length ∧ tot m' + 16 * msrs (ks.drop i) + 8 ≤ 1073741824 ∧
      stmtsC (ks.drop i) u (Nat.beq i 0) m' = stmtsC ks u true m1 ∧ Sat g w' ((b3, box c) :: (hp' ++ H))) ks.length
    ⟨0, m1, hp3, rfl, rfl, by omega, hM3, hu1, hn1, ht1, rfl, h3⟩ ?_
  rintro q x w4 ⟨i, m4, hp4, rfl, rfl, hi, hM4, hu4, hn4, ht4, hst, h4⟩
  try simp only [↓E1, ↓E2, ↓E3]
  rw [cnd_dec]
  constructor
  · intro hlt
    obtain ⟨x, hx⟩ : ∃ x, ks[i]? = some x := ⟨_, List.getElem?_eq_getElem (by omega)⟩
    have hxm : x ∈ ks := List.mem_of_getElem? hx
    obtain ⟨hx1, hx2⟩ := ih x hxm
    refine hkr.ldI (Nat.le_refl _) hkv' (by omega) hx h4 fun c5 hc5 => ?_
    refine h4.al fun b6 w5 h5 => ?_
    refine st_box (c2 := zN) h5 hc5.len rfl hc5.one fun w6 h6 => ?_
    have hdr : ks.drop i = x :: ks.drop (i + 1) := by
      rw [List.drop_eq_getElem_cons (List.getElem?_eq_some_iff.1 hx).1, (List.getElem?_eq_some_iff.1 hx).2]
    rw [hdr] at hn4 ht4 hst
    simp only [msrs, nUs] at hn4 ht4
    simp only [stmtsC] at hst
    have hpos := msr_pos x
    have hxk := nUs_kids x
    have hxm2 := msrs_kids x
    obtain ⟨m5, hm5⟩ : ∃ m5, m5 = bif Nat.beq i 0 then m4 else addI m4 u ⟨12, 0, 0⟩ := ⟨_, rfl⟩
    rw [← hm5] at hst
    have hle5 : Le m4 m5 0 1 := by
      rw [hm5]
      cases Nat.beq i 0
      · exact le_add _ _ _
      · exact (Le.refl m4).weak (Nat.le_refl _) (by omega)
    have u5 := hle5.uses
    have un5 := hle5.units
    have t5 := hle5.tot
    refine jn0 (fun w' => ∃ hp', MR g sel b m5 hp' ∧ Sat g w' ((b6, box c5) :: (b3, box c) :: (hp' ++ H))) ?_ ?_
    · rintro w7 ⟨hp7, hM7, h7⟩
      have hc5l := hc5.len
      obtain ⟨kx, tx, px, nx, nsx, ksx⟩ := x
      have hc5' := hc5
      cases hc5' with
      | @mk _ _ _ _ _ _ nvx kvx kcsx _ hkvx hklx hkrx =>
      try simp only [↓E1, ↓E2, ↓E3, Nat.reduceAdd]
      rw [h7.ld0 0 _ (by simp)]
      try simp only [↓E1, ↓E2, ↓E3, Nat.reduceAdd]
      rw [cnd_dec]
      constructor
      · intro hk11
        have hb : Nat.beq kx 11 = true := by
          have : kx = 11 := by omega
          rw [this]; rfl
        obtain ⟨e, he, hPe⟩ := hx2 hb
        have he : ksx = [e] := he
        subst he
        have hkrx' : KR g kcsx [e] := ⟨hklx, hkrx⟩
        try simp only [↓E1, ↓E2, ↓E3, Nat.reduceAdd]
        rw [h7.ld0 5 _ (by simp)]
        try simp only [↓E1, ↓E2, ↓E3, Nat.reduceAdd]
        refine hkrx'.ldI (n := 1) (i := 0) (Nat.le_refl _) (by rw [show (1 : Nat) * 6 = [e].length * 6 from rfl, hkrx'.flatLen]; exact hkvx) (by decide) rfl h7 fun ce hce => ?_
        try simp only [↓E1, ↓E2, ↓E3, Nat.reduceAdd]
        have hb' : Nat.beq (Node.mk kx tx px nx nsx [e]).kind 11 = true := hb
        rw [hb'] at hst
        simp only [cond_true] at hst
        simp only [msr, nU, msrs, nUs, Node.kids] at hn4 ht4 hxk hxm2
        have hle := (le_part e).1 u m5
        have l1 := hle.uses
        have l2 := hle.units
        have l3 := hle.tot
        refine hPe hce hM7 (by omega) (by omega) (by omega) (Sat.pull (A := [(b6, _), (b3, _)]) h7) fun hp8 w8 hM8 h8 => ?_
        try simp only [↓E1, ↓E2, ↓E3, Nat.reduceAdd]
        refine add 14 _ [] hp8 w8 _ hM8 (by omega) (by omega) (Sat.pull (A := hp8) (hp := [(b6, _), (b3, _)]) h8).tail.tail fun hp9 w9 hM9 h9 => ?_
        refine hR hp9 w9 ?_ h9
        rw [← hst]
        exact hM9
      · intro hk11
        have hb : Nat.beq kx 11 = false := by
          cases hb : Nat.beq kx 11 with
          | false => rfl
          | true => have := Nat.eq_of_beq_eq_true hb; omega
        have hb' : Nat.beq (Node.mk kx tx px nx nsx ksx).kind 11 = false := hb
        rw [hb'] at hst
        simp only [cond_false] at hst
        have hle := (le_part (.mk kx tx px nx nsx ksx)).1 u m5
        have l1 := hle.uses
        have l2 := hle.units
        have l3 := hle.tot
        refine h7.ldn0 (c := _) rfl ?_
        try simp only [↓E1, ↓E2, ↓E3, Nat.reduceAdd]
        refine hx1 hb hc5 hM7 (by omega) (by omega) (by omega) (Sat.pull (A := [(b6, _), (b3, _)]) h7) fun hp8 w8 hM8 h8 => ?_
        try simp only [↓E1, ↓E2, ↓E3, Nat.reduceAdd]
        rw [wrap64_succ (by omega)]
        exact ⟨ks.length - (i + 1), by omega, _, rfl, i + 1, _, hp8, rfl, rfl, by omega, hM8, by omega, by omega, by omega, hst, (Sat.pull (A := hp8) (hp := [(b6, _), (b3, _)]) h8).tail⟩
    · intro k2 hk2
      rw [cnd_dec]
      constructor
      · intro hpos0
        have hb0 : Nat.beq i 0 = false := by
          cases hb : Nat.beq i 0 with
          | false => rfl
          | true => have := Nat.eq_of_beq_eq_true hb; omega
        rw [hb0, cond_false] at hm5
        try simp only [↓E1, ↓E2, ↓E3, Nat.reduceAdd]
        refine add 12 m4 [(b6, _), (b3, _)] hp4 w6 _ hM4 hu4 (by omega) h6 fun hp7 w7 hM7 h7 => ?_
        try simp only [↓E3]
        exact hk2 _ ⟨hp7, by rw [hm5]; exact hM7, h7⟩
      · intro hz
        have : i = 0 := by omega
        subst this
        try simp only [↓E3]
        exact hk2 _ ⟨hp4, by rw [hm5]; exact hM4, h6⟩
  · intro hge
    have : i = ks.length := by omega
    subst this
    rw [List.drop_length] at hst
    simp only [stmtsC] at hst
    rw [← hst] at hR
    simp only [cond_false] at hR
    simp only [List.drop_length, msrs] at ht4
    -- the ends
    have hself : ∀ (m5 : MK) (hp5 : Hp) (w5 : World), MR g sel b m5 hp5 → u < m5.units.length → tot m5 + 4 ≤ 1073741824 → Sat g w5 ((b3, box c) :: (hp5 ++ H)) → (∀ hp' w', MR g sel b (addI (addI m5 u ⟨6, 0, 0⟩) u ⟨14, 0, 0⟩) hp' → Sat g w' (hp' ++ H) → R (.returned (.tuple #[])) w') →
        Tr P F.code_maker_add [ptr b 0, i64 (u : Int), i64 6, i64 0, i64 0] w5 (Vx.back (fun _ w => Tr P F.code_maker_add [ptr b 0, i64 (u : Int), i64 14, i64 0, i64 0] w (Vx.back (fun _ w => R (.returned (.tuple #[])) w) (fun ch w => R (.panicked ch) w))) (fun ch w => R (.panicked ch) w)) := by
      intro m5 hp5 w5 hM5 hu5 ht5 h5 hr
      refine add 6 m5 [(b3, _)] hp5 w5 _ hM5 hu5 (by omega) h5 fun hp6 w6 hM6 h6 => ?_
      refine add 14 _ [(b3, _)] hp6 w6 _ hM6 (by rw [hlen]; exact hu5) (by have := (le_add m5 u ⟨6, 0, 0⟩).tot; omega) h6 fun hp7 w7 hM7 h7 => ?_
      exact hr hp7 w7 hM7 (Sat.tail h7)
    have hend : ∀ (m5 : MK) (hp5 : Hp) (w5 : World), MR g sel b m5 hp5 → u < m5.units.length → tot m5 + 4 ≤ 1073741824 → Sat g w5 ((b3, box c) :: (hp5 ++ H)) → (∀ hp' w', MR g sel b (addI m5 u ⟨13, 0, 0⟩) hp' → Sat g w' (hp' ++ H) → R (.returned (.tuple #[])) w') →
        Tr P F.code_maker_add [ptr b 0, i64 (u : Int), i64 13, i64 0, i64 0] w5 (Vx.back (fun _ w => R (.returned (.tuple #[])) w) (fun ch w => R (.panicked ch) w)) := by
      intro m5 hp5 w5 hM5 hu5 ht5 h5 hr
      refine add 13 m5 [(b3, _)] hp5 w5 _ hM5 hu5 (by omega) h5 fun hp6 w6 hM6 h6 => ?_
      exact hr hp6 w6 hM6 (Sat.tail h6)
    refine jn1 (fun x w' => x = .bool (Nat.beq k 12 && !t.isEmpty) ∧ w' = w4) ?_ ?_
    · rintro x w5 ⟨rfl, rfl⟩
      refine jn0 (fun w' => (Nat.beq k 12 && !t.isEmpty) = true ∧ ∃ hp', MR g sel b (bif Nat.beq ks.length 0 then m4 else addI m4 u ⟨12, 0, 0⟩) hp' ∧ Sat g w' ((b3, box c) :: (hp' ++ H))) ?_ ?_
      · rintro w6 ⟨hme, hp6, hM6, h6⟩
        rw [hme] at hR
        simp only [cond_true] at hR
        try simp only [↓E1, ↓E2, ↓E3, Nat.reduceAdd]
        have hc : u < (bif Nat.beq ks.length 0 then m4 else addI m4 u ⟨12, 0, 0⟩).units.length ∧ tot (bif Nat.beq ks.length 0 then m4 else addI m4 u ⟨12, 0, 0⟩) ≤ tot m4 + 1 := by
          cases Nat.beq ks.length 0
          · exact ⟨by rw [cond_false, hlen]; exact hu4, (le_add m4 u ⟨12, 0, 0⟩).tot⟩
          · exact ⟨hu4, Nat.le_succ _⟩
        exact hself _ hp6 w6 hM6 hc.1 (by omega) h6 hR
      · intro k4 hk4
        refine jn0 (fun w' => w' = w5 ∧ ((Nat.beq k 12 && !t.isEmpty) = true → Nat.beq ks.length 0 = true)) ?_ ?_
        · rintro w6 ⟨rfl, hz⟩
          rw [cnd_eq]
          constructor
          · intro hme
            try simp only [↓E3]
            refine hk4 _ ⟨hme, hp4, ?_, h4⟩
            rw [hz hme]
            exact hM4
          · intro hme
            rw [hme] at hR
            simp only [cond_false] at hR
            try simp only [↓E1, ↓E2, ↓E3, Nat.reduceAdd]
            rw [h4.ld0 5 _ (by omega), g5]
            try simp only [↓E1, ↓E2, ↓E3, Nat.reduceAdd]
            rw [cnd_dec]
            constructor
            · intro h0
              have : Nat.beq ks.length 0 = true := by
                have : ks.length = 0 := by omega
                rw [this]; rfl
              rw [this] at hR
              simp only [cond_true] at hR
              try simp only [↓E1, ↓E2, ↓E3, Nat.reduceAdd]
              refine add 7 m4 [(b3, _)] hp4 w6 _ hM4 hu4 (by omega) h4 fun hp7 w7 hM7 h7 => ?_
              exact hend _ hp7 w7 hM7 (by rw [hlen]; exact hu4) (by have := (le_add m4 u ⟨7, 0, 0⟩).tot; omega) h7 hR
            · intro h0
              have : Nat.beq ks.length 0 = false := by
                cases hb : Nat.beq ks.length 0 with
                | false => rfl
                | true => have := Nat.eq_of_beq_eq_true hb; omega
              rw [this] at hR
              simp only [cond_false] at hR
              try simp only [↓E1, ↓E2, ↓E3, Nat.reduceAdd]
              exact hend _ hp4 w6 hM4 hu4 (by omega) h4 hR
        · intro k5 hk5
          rw [cnd_eq]
          constructor
          · intro hme
            try simp only [↓E1, ↓E2, ↓E3, Nat.reduceAdd]
            rw [h4.ld0 5 _ (by omega), g5]
            try simp only [↓E1, ↓E2, ↓E3, Nat.reduceAdd]
            rw [cnd_dec]
            constructor
            · intro hpos
              have hb : Nat.beq ks.length 0 = false := by
                cases hb : Nat.beq ks.length 0 with
                | false => rfl
                | true => have := Nat.eq_of_beq_eq_true hb; omega
              try simp only [↓E1, ↓E2, ↓E3, Nat.reduceAdd]
              refine add 12 m4 [(b3, _)] hp4 w5 _ hM4 hu4 (by omega) h4 fun hp7 w7 hM7 h7 => ?_
              try simp only [↓E3]
              refine hk4 _ ⟨hme, hp7, ?_, h7⟩
              rw [hb]
              exact hM7
            · intro hz
              try simp only [↓E3]
              refine hk5 _ ⟨rfl, fun _ => ?_⟩
              have : ks.length = 0 := by omega
              rw [this]; rfl
          · intro hme
            try simp only [↓E3]
            refine hk5 _ ⟨rfl, fun h => ?_⟩
            rw [h] at hme; simp at hme
    · intro k3 hk3
      try simp only [↓E1, ↓E2, ↓E3, Nat.reduceAdd]
      rw [h4.ld0 0 _ (by omega), g0]
      try simp only [↓E1, ↓E2, ↓E3, Nat.reduceAdd]
      rw [cnd_dec]
      constructor
      · intro hk12
        have : k = 12 := by omega
        subst this
        try simp only [↓E1, ↓E2, ↓E3, Nat.reduceAdd]
        rw [h4.ld0 1 _ (by omega), g1]
        have es : (Value.string { data := #[] }) = str [] := rfl
        try rw [es]
        try simp only [↓E1, ↓E2, ↓E3, Nat.reduceAdd]
        refine hk3 _ _ ⟨?_, rfl⟩
        congr 1
        cases t <;> simp
      · intro hk12
        try simp only [↓E3]
        refine hk3 _ _ ⟨?_, rfl⟩
        have : Nat.beq k 12 = false := by
          cases hb : Nat.beq k 12 with
          | false => rfl
          | true => have := Nat.eq_of_beq_eq_true hb; omega
        rw [this, Bool.false_and]
end Go.Vx
namespace Go.Vx
open Go Go.Proofs
variable {R : Ending → World → Prop} {g : G} {w : World} {H hp T : Hp}

theorem KR.tail {kcs : List (List Value)} {c : List Value} {k : Node} {ks : List Node} (h : KR g (c :: kcs) (k :: ks)) : KR g kcs ks := ⟨by simpa using h.1, fun i c' k' h1 h2 => h.2 (i + 1) c' k' (by simpa using h1) (by simpa using h2)⟩
theorem KR.split {kcs : List (List Value)} {k : Node} {ks : List Node} (h : KR g kcs (k :: ks)) : ∃ c kcs', kcs = c :: kcs' ∧ NodeR g c k ∧ KR g kcs' ks := by
  cases kcs with
  | nil => have := h.1; simp at this
  | cons c kcs => exact ⟨c, kcs, rfl, h.2 0 c k rfl rfl, h.tail⟩

/-- What is told of all parts. -/
def AllM (n : Node) : Prop := (OkE n → PartM n) ∧ (∀ y ∈ n.kids, OkE y → PartM y)

theorem okE_kind {n : Node} (h : OkE n) : Nat.beq n.kind 11 = false := by
  cases h with
  | leaf h => rcases h with rfl | rfl | rfl <;> rfl
  | _ => rfl

theorem stmtM_of {x : Node} (h : OkS x) (hA : AllM x) : StmtM x := by
  cases h with
  | expr h => exact ⟨fun _ => hA.1 h, fun h11 => by rw [okE_kind h] at h11; simp at h11⟩
  | ret h => exact ⟨fun h11 => by simp [Node.kind] at h11, fun _ => ⟨_, rfl, hA.2 _ (by simp [Node.kids]) h⟩⟩

theorem c_partM : ∀ n, AllM n := by
  refine Node.ind fun k t p nn ns ks ih => ⟨?_, fun y hy hok => (ih y hy).1 hok⟩
  intro hok g w H hp R sel b u m c hn hM hu hnu ht hS hR
  apply t_code_maker_part
  unfold d_code_maker_part
  have hn0 := hn
  cases hn with
  | @mk _ _ _ _ _ _ nv kv kcs hnv hkv hkl hkr =>
  have hkr : KR g kcs ks := ⟨hkl, hkr⟩
  simp only [msr] at ht
  have hkl2 := len_msrs ks
  obtain ⟨ka, kc, rfl, hkc, _, _⟩ := id hkv
  obtain ⟨c, hcd⟩ : ∃ c, c = [i64 (k : Int), str t, i64 (p : Int), i64 (nn : Int), nv, Value.slice ka ks.length kc] := ⟨_, rfl⟩
  rw [← hcd] at hn0 ⊢
  have hclen : c.length = 6 := by rw [hcd]; rfl
  have g0 : c.getD 0 undef = i64 (k : Int) := by rw [hcd]; rfl
  have g1 : c.getD 1 undef = str t := by rw [hcd]; rfl
  have g5 : c.getD 5 undef = Value.slice ka ks.length kc := by rw [hcd]; rfl
  clear hcd
  have hkv' : Sl g 6 (.slice ka ks.length kc) ks.length (kcs.flatten.take (ks.length * 6)) := by rw [hkr.flatLen]; exact hkv
  refine hS.al fun b5 w1 h1 => ?_
  have h1 : Sat g w1 ((b5, box c) :: (hp ++ H)) := by
    have e : (Value.agg c.toArray).cells.toList = c := by simp [Value.cells]
    rw [e] at h1
    exact h1
  have toM : ∀ {w' : World} {hp' : Hp}, Sat g w' ((b5, box c) :: (hp' ++ H)) → Sat g w' (hp' ++ ((b5, box c) :: H)) := fun h => h.perm List.perm_middle.symm
  have toB : ∀ {w' : World} {hp' : Hp}, Sat g w' (hp' ++ ((b5, box c) :: H)) → Sat g w' ((b5, box c) :: (hp' ++ H)) := fun h => h.perm List.perm_middle
  have hlen : ∀ (m2 : MK) (i : Ins), (addI m2 u i).units.length = m2.units.length := fun m2 i => modU_len _ _ _
  -- a step is put
  have add : ∀ (op a bb : Nat) (m2 : MK) (X : Hp) (hp2 : Hp) (w' : World) (K : World → Prop), MR g sel b m2 hp2 → u < m2.units.length → tot m2 ≤ 1073741824 → Sat g w' (X ++ (hp2 ++ H)) → (∀ hp' w', MR g sel b (addI m2 u ⟨op, a, bb⟩) hp' → Sat g w' (X ++ (hp' ++ H)) → K w') →
      Tr P F.code_maker_add [ptr b 0, i64 (u : Int), i64 (op : Int), i64 (a : Int), i64 (bb : Int)] w' (Vx.back (fun _ w => K w) (fun ch w => R (.panicked ch) w)) := by
    intro op a bb m2 X hp2 w' K hM2 hu2 ht2 h hk
    refine c_add (H := X ++ H) hM2 hu2 ht2 (Sat.pull h) fun hp' w'' hM' h' => ?_
    try simp only [↓E3]
    exact hk hp' w'' hM' (Sat.pull (A := hp') (hp := X) h')
  try simp only [↓E1, ↓E2, ↓E3, Nat.reduceAdd]
  rw [h1.ld0 0 _ (by omega), g0]
  try simp only [↓E1, ↓E2, ↓E3, Nat.reduceAdd]
  have ne : ∀ j : Nat, ¬ ((k : Int) = (j : Int)) → Nat.beq k j = false := by
    intro j h
    cases hb : Nat.beq k j with
    | false => rfl
    | true => exact absurd (by rw [Nat.eq_of_beq_eq_true hb]) h
  have dk : ∀ j : Nat, decide ((k : Int) = (j : Int)) = Nat.beq k j := by
    intro j
    rw [Bool.eq_iff_iff, decide_eq_true_eq]
    constructor
    · intro h
      have : k = j := by omega
      rw [this]; exact Nat.beq_refl _
    · intro h
      have := Nat.eq_of_beq_eq_true h
      omega
  refine jn1 (fun x w' => x = .bool (Nat.beq k 1 || (Nat.beq k 2 || (Nat.beq k 3 || Nat.beq k 4))) ∧ w' = w1) ?_ ?_
  rotate_left
  · intro k1 hk1
    have d1 := dk 1
    have d2 := dk 2
    have d3 := dk 3
    have d4 := dk 4
    rw [show decide ((k : Int) = 1) = Nat.beq k 1 from d1, show decide ((k : Int) = 2) = Nat.beq k 2 from d2, show decide ((k : Int) = 3) = Nat.beq k 3 from d3, show decide ((k : Int) = 4) = Nat.beq k 4 from d4]
    cases e1 : Nat.beq k 1
    · try simp only [↓E3]
      cases e2 : Nat.beq k 2
      · try simp only [↓E3]
        cases e3 : Nat.beq k 3
        · try simp only [↓E3]
          exact hk1 _ _ ⟨by rw [e1, e2, e3]; rfl, rfl⟩
        · try simp only [↓E3]
          exact hk1 _ _ ⟨by rw [e1, e2, e3]; rfl, rfl⟩
      · try simp only [↓E3]
        exact hk1 _ _ ⟨by rw [e1, e2]; rfl, rfl⟩
    · try simp only [↓E3]
      exact hk1 _ _ ⟨by rw [e1]; rfl, rfl⟩
  rintro x w' ⟨rfl, rfl⟩
  rw [cnd_eq]
  constructor
  · -- a literal
    intro hlit
    simp only [partC, hlit, cond_true] at hR
    have hlN : LitN (.mk k t p nn ns ks) := by
      cases hok with
      | leaf h => exact .leaf (by omega)
      | list h => exact .list h
      | _ => simp at hlit
    have h2 := h1.drew
    try simp only [↓E1, ↓E2, ↓E3, Nat.reduceAdd]
    refine h2.ldn0 (c := c) hclen.symm ?_
    try simp only [↓E1, ↓E2, ↓E3, Nat.reduceAdd]
    refine c_Text hlN hn0 (by simp only [msr]; omega) h2 fun w3 h3 => ?_
    try simp only [↓E1, ↓E2, ↓E3, Nat.reduceAdd]
    refine c_onceL hM (by omega) (toM h3) fun hp4 w4 hM4 h4 => ?_
    try simp only [↓E1, ↓E2, ↓E3, Nat.reduceAdd]
    refine add 0 _ 0 _ [(b5, _)] hp4 w4 _ hM4 hu (by have := (le_lit m (litS (.mk k t p nn ns ks))).tot; omega) (toB h4) fun hp6 w6 hM6 h6 => ?_
    exact hR hp6 w6 hM6 (Sat.tail h6)
  intro hnlit
  simp only [partC, hnlit, cond_false] at hR
  rw [cnd_dec]
  constructor
  · intro hk5
    have : k = 5 := by omega
    subst this
    try simp only [↓E1, ↓E2, ↓E3, Nat.reduceAdd]
    have hne : m.uses ≠ [] := by
      intro h0
      rw [h0] at hnu
      simp [nU] at hnu <;> omega
    refine c_mname hM hu hne (by omega) (toM h1) fun hp2 w2 hM2 h2 => ?_
    try simp only [↓E3]
    exact hR hp2 w2 hM2 (toB h2).tail
  intro hk5
  have n5 := ne 5 hk5
  simp only [n5, cond_false] at hR
  try simp only [↓E1, ↓E2, ↓E3, Nat.reduceAdd]
  rw [cnd_dec]
  constructor
  · intro hk6
    have : k = 6 := by omega
    subst this
    cases hok with
    | leaf h => omega
    | @set _ _ e he =>
    have hR : ∀ hp' w', MR g sel b (bif (useH m).kind == 3 then addI (partC e u (popU m)) u ⟨2, (useH m).depth, (useH m).index⟩ else addI (partC e u (popU m)) u ⟨4, (useH m).index, 0⟩) hp' → Sat g w' (hp' ++ H) → R (.returned (.tuple #[])) w' := by
      intro hp' w' hM' h'
      refine hR hp' w' ?_ h'
      simp only [headC]
      exact hM'
    have hPe : PartM e := (ih e (by simp)).1 he
    try simp only [↓E1, ↓E2, ↓E3, Nat.reduceAdd]
    have hne : m.uses ≠ [] := by
      intro h0
      rw [h0] at hnu
      simp [nU] at hnu <;> omega
    refine c_use hM hne (toM h1) fun hp2 w2 hM2 h2 => ?_
    have h2 := toB h2
    have hlep := le_pop m
    have hupop : u < (popU m).units.length := hu
    have hnpop : nU e ≤ (popU m).uses.length := by
      have := hlep.uses
      simp only [nU, nUs] at hnu
      have : 1 + nU e ≤ m.uses.length := by simpa using hnu
      omega
    have htpop : tot (popU m) ≤ tot m := hlep.tot
    generalize useH m = ux at hR
    generalize popU m = m2 at hR hM2 hupop hnpop htpop
    try simp only [↓E1, ↓E2, ↓E3, Nat.reduceAdd]
    refine h2.al fun b6 w3 h3 => ?_
    have h3 : Sat g w3 ((b6, ubx use0) :: (b5, box c) :: (hp2 ++ H)) := h3
    refine st_all (c := useC ux) (c2 := useC use0) h3 rfl rfl rfl fun w4 h4 => ?_
    try simp only [↓E1, ↓E2, ↓E3, Nat.reduceAdd]
    rw [h4.ld1 5 _ (by omega), g5]
    try simp only [↓E1, ↓E2, ↓E3, Nat.reduceAdd]
    refine hkr.ldI (i := 0) (Nat.le_refl _) hkv' (by simp) rfl h4 fun ce hce => ?_
    try simp only [↓E1, ↓E2, ↓E3, Nat.reduceAdd]
    simp only [msrs] at ht
    have hle := (le_part e).1 u m2
    have l2 := hle.units
    have l3 := hle.tot
    have hpe := msr_pos e
    refine hPe hce hM2 hupop hnpop (by omega) (Sat.pull (A := [(b6, _), (b5, _)]) h4) fun hp5 w5 hM5 h5 => ?_
    have h5 : Sat g w5 ((b6, .cells (useC ux).toArray Ty.scope_Use) :: (b5, box c) :: (hp5 ++ H)) := Sat.pull (A := hp5) (hp := [(b6, _), (b5, _)]) h5
    have q2 : (useC ux).getD 2 undef = i64 ux.kind := rfl
    have q3 : (useC ux).getD 3 undef = i64 (ux.depth : Int) := rfl
    have q4 : (useC ux).getD 4 undef = i64 (ux.index : Int) := rfl
    have ul : 5 < (useC ux).length := by simp [useC]
    try simp only [↓E1, ↓E2, ↓E3, Nat.reduceAdd]
    rw [h5.ld0 2 _ (by omega), q2]
    try simp only [↓E1, ↓E2, ↓E3, Nat.reduceAdd]
    rw [cnd_dec]
    constructor
    · intro hk3
      rw [hk3] at hR
      try simp only [↓E1, ↓E2, ↓E3, Nat.reduceAdd]
      rw [h5.ld0 3 _ (by omega), q3]
      try simp only [↓E1, ↓E2, ↓E3, Nat.reduceAdd]
      rw [h5.ld0 4 _ (by omega), q4]
      try simp only [↓E1, ↓E2, ↓E3, Nat.reduceAdd]
      refine add 2 ux.depth ux.index _ [(b6, _), (b5, _)] hp5 w5 _ hM5 (by omega) (by omega) h5 fun hp6 w6 hM6 h6 => ?_
      exact hR hp6 w6 hM6 (Sat.tail (Sat.tail h6))
    · intro hk3
      have e3 : (ux.kind == 3) = false := beq_eq_false_iff_ne.2 hk3
      rw [e3] at hR
      try simp only [↓E1, ↓E2, ↓E3, Nat.reduceAdd]
      rw [h5.ld0 4 _ (by omega), q4]
      try simp only [↓E1, ↓E2, ↓E3, Nat.reduceAdd]
      refine add 4 ux.index 0 _ [(b6, _), (b5, _)] hp5 w5 _ hM5 (by omega) (by omega) h5 fun hp6 w6 hM6 h6 => ?_
      exact hR hp6 w6 hM6 (Sat.tail (Sat.tail h6))
  intro hk6
  have n6 := ne 6 hk6
  simp only [n6, cond_false] at hR
  have hnk : nUs ks ≤ m.uses.length := by have := nUs_kids (.mk k t p nn ns ks); simp only [Node.kids] at this; omega
  try simp only [↓E1, ↓E2, ↓E3, Nat.reduceAdd]
  rw [cnd_dec]
  constructor
  · intro hk7
    have : k = 7 := by omega
    subst this
    cases hok with
    | leaf h => omega
    | @send _ _ r ks hr hks =>
    have hR : ∀ hp' w', MR g sel b (sendC u (isSuper r) t ks.length (partsC ks u (partC r u m))) hp' → Sat g w' (hp' ++ H) → R (.returned (.tuple #[])) w' := by
      intro hp' w' hM' h'
      refine hR hp' w' ?_ h'
      simp only [partsC]
      exact hM'
    obtain ⟨cr, kcs', rfl, hcr, hkr2⟩ := hkr.split
    try simp only [↓E1, ↓E2, ↓E3, Nat.reduceAdd]
    rw [h1.ld0 5 _ (by omega), g5]
    try simp only [↓E1, ↓E2, ↓E3, Nat.reduceAdd]
    simp only [msrs, nUs] at ht hnk
    have hPr : PartM r := (ih r (by simp)).1 hr
    have hle := (le_part r).1 u m
    have l1 := hle.uses
    have l2 := hle.units
    have l3 := hle.tot
    have hpr := msr_pos r
    refine hkr.ldI (i := 0) (Nat.le_refl _) hkv' (by simp) rfl h1 fun ce hce => ?_
    try simp only [↓E1, ↓E2, ↓E3, Nat.reduceAdd]
    refine hPr hce hM hu (by omega) (by omega) (toM h1) fun hp2 w2 hM2 h2 => ?_
    have h3 := (toB h2).drew
    try simp only [↓E1, ↓E2, ↓E3, Nat.reduceAdd]
    rw [h3.ld0 5 _ (by omega), g5]
    try simp only [↓E1, ↓E2, ↓E3, Nat.reduceAdd]
    refine hkr.ldI (i := 0) (Nat.le_refl _) hkv' (by simp) rfl h3 fun ce2 hce2 => ?_
    try simp only [↓E1, ↓E2, ↓E3, Nat.reduceAdd]
    rw [h3.ld0 1 _ (by omega), g1]
    try simp only [↓E1, ↓E2, ↓E3, Nat.reduceAdd]
    rw [h3.ld0 5 _ (by omega), g5]
    try simp only [↓E1, ↓E2, ↓E3, Nat.reduceAdd]
    refine slL_lo _ _ _ _ _ _ (by decide) (by simp; omega) hkc ?_
    have hf := Sl.from1 (sz := 6) hkv (by simp) (by decide)
    have hf' : Sl g 6 (Value.slice (if (kc : Int) = 1 then ka else ka.map (·.add ((1 : Int).toNat * 6))) ((r :: ks).length - (1 : Int).toNat) (kc - (1 : Int).toNat)) ks.length kcs'.flatten := by
      have e : (cr :: kcs').flatten.drop 6 = kcs'.flatten := by
        rw [List.flatten_cons, List.drop_left' hcr.len]
      rw [e] at hf
      exact hf
    try simp only [↓E1, ↓E2, ↓E3, Nat.reduceAdd]
    refine c_send (fun y hy => (ih y (by simp [hy])).1 (hks y hy)) hce2 hf' hkr2 hM2 (by omega) (by omega) (by omega) (toM h3) fun hp4 w4 hM4 h4 => ?_
    try simp only [↓E3]
    exact hR hp4 w4 hM4 (toB h4).tail
  intro hk7
  have n7 := ne 7 hk7
  simp only [n7, cond_false] at hR
  try simp only [↓E1, ↓E2, ↓E3, Nat.reduceAdd]
  rw [cnd_dec]
  constructor
  · intro hk8
    have : k = 8 := by omega
    subst this
    cases hok with
    | leaf h => omega
    | @casc _ r ms hr hmne hms =>
    have hR : ∀ hp' w', MR g sel b (cascC ms u (isSuper r) (partC r u m)) hp' → Sat g w' (hp' ++ H) → R (.returned (.tuple #[])) w' := by
      intro hp' w' hM' h'
      refine hR hp' w' ?_ h'
      simp only [cascT]
      exact hM'
    obtain ⟨cr, kcs', rfl, hcr, hkr2⟩ := hkr.split
    have hmpos : 0 < ms.length := List.length_pos_iff.2 hmne
    try simp only [↓E1, ↓E2, ↓E3, Nat.reduceAdd]
    rw [h1.ld0 5 _ (by omega), g5]
    try simp only [↓E1, ↓E2, ↓E3, Nat.reduceAdd]
    simp only [msrs, nUs] at ht hnk
    have hml2 := len_msrs ms
    have hPr : PartM r := (ih r (by simp)).1 hr
    have hle := (le_part r).1 u m
    have l1 := hle.uses
    have l2 := hle.units
    have l3 := hle.tot
    have hpr := msr_pos r
    refine hkr.ldI (i := 0) (Nat.le_refl _) hkv' (by simp) rfl h1 fun ce hce => ?_
    try simp only [↓E1, ↓E2, ↓E3, Nat.reduceAdd]
    refine hPr hce hM hu (by omega) (by omega) (toM h1) fun hp2 w2 hM2 h2 => ?_
    have h3 := toB h2
    generalize partC r u m = m2 at hR hM2 l1 l2 l3
    try simp only [↓E1, ↓E2, ↓E3, Nat.reduceAdd]
    rw [h3.ld0 5 _ (by omega), g5]
    try simp only [↓E1, ↓E2, ↓E3, Nat.reduceAdd]
    rw [h3.ld0 5 _ (by omega), g5]
    have elast : IntKind.i64.wrap ((((r :: ms).length : Nat) : Int) - 1) = ((ms.length : Nat) : Int) := by
      rw [wrap64_of (by rw [List.length_cons]; omega) (by rw [List.length_cons]; omega), List.length_cons]; omega
    rw [elast]
    try simp only [↓E1, ↓E2, ↓E3, Nat.reduceAdd]
    refine slL_eq _ _ _ _ _ _ _ _ (by decide) (by omega) (by simp at hkc; omega) ?_
    have hf := Sl.from1 (sz := 6) hkv (by simp) (by decide)
    obtain ⟨a', ha'⟩ : ∃ a', a' = (if (kc : Int) = 1 then ka else ka.map (·.add ((1 : Int).toNat * 6))) := ⟨_, rfl⟩
    rw [← ha'] at hf ⊢
    have hf1 : Sl g 6 (Value.slice a' ms.length (kc - 1)) ms.length kcs'.flatten := by
      have e : (cr :: kcs').flatten.drop 6 = kcs'.flatten := by
        rw [List.flatten_cons, List.drop_left' hcr.len]
      rw [e] at hf
      exact hf
    have hf2 : Sl g 6 (Value.slice a' (ms.length - 1) (kc - 1)) (ms.length - 1) (kcs'.flatten.take ((ms.length - 1) * 6)) := hf1.take (by omega)
    have ev : Value.slice a' (((ms.length : Nat) : Int).toNat - (1 : Int).toNat) (kc - (1 : Int).toNat) = Value.slice a' (ms.length - 1) (kc - 1) := by
      rw [Int.toNat_natCast]; rfl
    rw [ev]
    try simp only [↓E1, ↓E2, ↓E3, Nat.reduceAdd]
    refine lp1 (fun q x w' => ∃ i m' hp', x = i64 ((i : Nat) : Int) ∧ q = ms.length - i ∧ i ≤ ms.length - 1 ∧ MR g sel b m' hp' ∧ u < m'.units.length ∧ nUs (ms.drop i) ≤ m'.uses.length ∧ tot m' + 16 * msrs (ms.drop i) + 4 ≤ 1073741824 ∧
        cascC (ms.drop i) u (isSuper r) m' = cascC ms u (isSuper r) m2 ∧ Sat g w' ((b5, box c) :: (hp' ++ H))) ms.length
      ⟨0, m2, hp2, rfl, rfl, by omega, hM2, by omega, by simp only [List.drop_zero]; omega, by simp only [List.drop_zero]; omega, rfl, h3⟩ ?_
    rintro q x w4 ⟨i, m4, hp4, rfl, rfl, hi, hM4, hu4, hn4, ht4, hcc, h4⟩
    try simp only [↓E1, ↓E2, ↓E3]
    obtain ⟨x, hx⟩ : ∃ x, ms[i]? = some x := ⟨_, List.getElem?_eq_getElem (by omega)⟩
    have hxm : x ∈ ms := List.mem_of_getElem? hx
    have hdr : ms.drop i = x :: ms.drop (i + 1) := by
      rw [List.drop_eq_getElem_cons (List.getElem?_eq_some_iff.1 hx).1, (List.getElem?_eq_some_iff.1 hx).2]
    rw [hdr] at hn4 ht4 hcc
    simp only [msrs, nUs] at hn4 ht4
    simp only [cascC] at hcc
    have hxk := nUs_kids x
    have hxm2 := msrs_kids x
    have hPx := (ih x (by simp [hxm])).2
    have hokx := hms x hxm
    have hlm := fun mm => (le_part x).2.1 u (isSuper r) mm
    cases hokx with
    | @mk px tx ksx hkx =>
    simp only [Node.kids] at hxk hxm2 hPx hlm
    have hPx : ∀ y ∈ ksx, PartM y := fun y hy => hPx y hy (hkx y hy)
    have hmsg : ∀ mm, msgC (.mk 9 tx px 0 [] ksx) u (isSuper r) mm = sendC u (isSuper r) tx ksx.length (partsC ksx u mm) := fun mm => by simp only [msgC]
    rw [cnd_dec]
    constructor
    · intro hlt
      have hne : (ms.drop (i + 1)).isEmpty = false := by
        cases hd : ms.drop (i + 1) with
        | nil =>
          have := congrArg List.length hd
          simp at this
          omega
        | cons _ _ => rfl
      rw [hne, cond_false] at hcc
      refine hkr2.ldI (n := ms.length - 1) (by omega) hf2 (by omega) hx h4 fun c5 hc5 => ?_
      refine h4.al fun b9 w5 h5 => ?_
      refine st_box (c2 := zN) h5 hc5.len rfl hc5.one fun w6 h6 => ?_
      have l11 := le_add m4 u ⟨11, 0, 0⟩
      try simp only [↓E1, ↓E2, ↓E3, Nat.reduceAdd]
      refine add 11 0 0 m4 [(b9, _), (b5, _)] hp4 w6 _ hM4 hu4 (by omega) h6 fun hp7 w7 hM7 h7 => ?_
      have h8 : Sat g w7.drew ((b9, box c5) :: (b5, box c) :: (hp7 ++ H)) := h7.drew
      try simp only [↓E1, ↓E2, ↓E3, Nat.reduceAdd]
      rw [h8.ld1 5 _ (by omega), g5]
      try simp only [↓E1, ↓E2, ↓E3, Nat.reduceAdd]
      refine hkr.ldI (i := 0) (Nat.le_refl _) hkv' (by simp) rfl h8 fun ce2 hce2 => ?_
      cases hc5 with
      | @mk _ _ _ _ _ _ nvx kvx kcsx _ hkvx hklx hkrx =>
      try simp only [↓E1, ↓E2, ↓E3, Nat.reduceAdd]
      rw [h8.ld0 1 _ (by simp)]
      try simp only [↓E1, ↓E2, ↓E3, Nat.reduceAdd]
      rw [h8.ld0 5 _ (by simp)]
      try simp only [↓E1, ↓E2, ↓E3, Nat.reduceAdd]
      have u11 := l11.uses
      have un11 := l11.units
      have t11 := l11.tot
      refine c_send hPx hce2 hkvx ⟨hklx, hkrx⟩ hM7 (by omega) (by omega) (by omega) (Sat.pull (A := [(b9, _), (b5, _)]) h8) fun hp9 w9 hM9 h9 => ?_
      rw [← hmsg] at hM9
      have h9 := Sat.pull (A := hp9) (hp := [(b9, _), (b5, _)]) h9
      have lx := hlm (addI m4 u ⟨11, 0, 0⟩)
      have ux := lx.uses
      have unx := lx.units
      have tx' := lx.tot
      generalize msgC (.mk 9 tx px 0 [] ksx) u (isSuper r) (addI m4 u ⟨11, 0, 0⟩) = m9 at hM9 hcc ux unx tx'
      have l12 := le_add m9 u ⟨12, 0, 0⟩
      have u12 := l12.uses
      have un12 := l12.units
      have t12 := l12.tot
      try simp only [↓E1, ↓E2, ↓E3, Nat.reduceAdd]
      refine add 12 0 0 m9 [(b9, _), (b5, _)] hp9 w9 _ hM9 (by omega) (by omega) h9 fun hp10 w10 hM10 h10 => ?_
      try simp only [↓E1, ↓E2, ↓E3, Nat.reduceAdd]
      rw [wrap64_succ (by omega)]
      exact ⟨ms.length - (i + 1), by omega, _, rfl, i + 1, _, hp10, rfl, rfl, by omega, hM10, by omega, by omega, by omega, hcc, Sat.tail h10⟩
    · intro hge
      have hil : i = ms.length - 1 := by omega
      have hemp : ms.drop (i + 1) = [] := List.drop_eq_nil_of_le (by omega)
      rw [hemp] at hcc ht4 hn4
      simp only [List.isEmpty_nil, cond_true] at hcc
      simp only [msrs, nUs] at ht4 hn4
      rw [← hcc] at hR
      have h5 := h4.drew
      try simp only [↓E1, ↓E2, ↓E3, Nat.reduceAdd]
      rw [h5.ld0 5 _ (by omega), g5]
      try simp only [↓E1, ↓E2, ↓E3, Nat.reduceAdd]
      refine hkr.ldI (i := 0) (Nat.le_refl _) hkv' (by simp) rfl h5 fun ce2 hce2 => ?_
      try simp only [↓E1, ↓E2, ↓E3, Nat.reduceAdd]
      rw [h5.ld0 5 _ (by omega), g5]
      try simp only [↓E1, ↓E2, ↓E3, Nat.reduceAdd]
      have hx2 : (r :: ms)[ms.length]? = some (.mk 9 tx px 0 [] ksx) := by
        have : ms.length = i + 1 := by omega
        rw [this]
        exact hx
      refine hkr.atI (i := ms.length) (Nat.le_refl _) hkv' (by simp) hx2 h5 fun bq oq cq hcq hcell => ?_
      cases hcq with
      | @mk _ _ _ _ _ _ nvx kvx kcsx _ hkvx hklx hkrx =>
      have hc1 : g.cell? bq (oq + 1) = some (str tx) := hcell 1 _ rfl
      have hc5' : g.cell? bq (oq + 5) = some kvx := hcell 5 _ rfl
      try simp only [↓E1, ↓E2, ↓E3, Nat.reduceAdd]
      rw [h5.ldI hc1]
      try simp only [↓E1, ↓E2, ↓E3, Nat.reduceAdd]
      rw [h5.ld0 5 _ (by omega), g5]
      try simp only [↓E1, ↓E2, ↓E3, Nat.reduceAdd]
      refine hkr.atI (i := ms.length) (Nat.le_refl _) hkv' (by simp) hx2 h5 fun bz oz cz hcz hcellz => ?_
      cases hcz with
      | @mk _ _ _ _ _ _ nvz kvz kcsz _ hkvz hklz hkrz =>
      have hz5 : g.cell? bz (oz + 5) = some kvz := hcellz 5 _ rfl
      try simp only [↓E1, ↓E2, ↓E3, Nat.reduceAdd]
      rw [h5.ldI hz5]
      try simp only [↓E1, ↓E2, ↓E3, Nat.reduceAdd]
      refine c_send hPx hce2 hkvz ⟨hklz, hkrz⟩ hM4 hu4 (by omega) (by omega) (toM h5) fun hp9 w9 hM9 h9 => ?_
      rw [← hmsg] at hM9
      try simp only [↓E3]
      exact hR hp9 w9 hM9 (toB h9).tail
  intro hk8
  have n8 := ne 8 hk8
  simp only [n8, cond_false] at hR
  try simp only [↓E1, ↓E2, ↓E3, Nat.reduceAdd]
  rw [cnd_dec]
  constructor
  · intro hk10
    have : k = 10 := by omega
    subst this
    cases hok with
    | leaf h => omega
    | blk hnn hks =>
    have hun : UnitM (.mk 10 [] p nn ns ks) := c_unitM (k := 10) (p := p) (nn := nn) (t := []) (ns := ns) (ks := ks) fun x hx => stmtM_of (hks x hx) (ih x hx)
    try simp only [↓E1, ↓E2, ↓E3, Nat.reduceAdd]
    obtain ⟨vU, cU, hU, hI, vL, hL, vN, hN, vS, hSe, vX, hur, hgU, hgL, hgN, hgS, hX, hpe⟩ := id hM
    obtain ⟨ua, uc, rfl⟩ := hgU.slice
    have hbm : (b, mkO sel (.slice ua m.units.length uc) vL vN vS vX) ∈ (b5, box c) :: (hp ++ H) := by rw [hpe]; simp
    rw [h1.ldH (b := b) (c := [str sel, .slice ua m.units.length uc, vL, vN, vS, vX]) (t := Ty.code_maker) (fr := (0, 0)) hbm 1 _ (by simp)]
    try simp only [↓E1, ↓E2, ↓E3, Nat.reduceAdd]
    have hle := le_add m u ⟨10, m.units.length, 0⟩
    refine add 10 m.units.length 0 m [(b5, _)] hp _ _ hM hu (by omega) h1 fun hp2 w2 hM2 h2 => ?_
    have h2 : Sat g w2 ((b5, box c) :: (hp2 ++ H)) := h2
    refine h2.ldn0 (c := c) hclen.symm ?_
    try simp only [↓E1, ↓E2, ↓E3, Nat.reduceAdd]
    refine hun hn0 hM2 hnu (by simp only [msr]; have := hle.tot; omega) (toM h2) fun hp3 w3 hM3 h3 => ?_
    try simp only [↓E3]
    refine hR hp3 w3 ?_ (toB h3).tail
    exact hM3
  intro hk10
  have n10 := ne 10 hk10
  simp only [n10, cond_false] at hR
  try simp only [↓E3]
  exact hR hp _ hM h1.tail
end Go.Vx
namespace Go.Vx

/-- Who gives up tells why. -/
def Bd {α : Type} (r : Res α) : Prop := ∀ p e, r = .bad p e → e ≠ 0
theorem bd_out {α : Type} : Bd (.out : Res α) := fun _ _ h => by simp at h
theorem bd_ok {α : Type} (a : α) (l : List Tok) : Bd (.ok a l) := fun _ _ h => by simp at h
theorem bd_syn {α : Type} (l : List Tok) : Bd (syn l : Res α) := fun _ _ h => by
  simp only [syn] at h
  injection h with _ h
  omega
theorem bd_cond {α : Type} {c : Bool} {x y : Res α} (h1 : Bd x) (h2 : Bd y) : Bd (bif c then x else y) := by cases c <;> assumption
theorem bd_then {α β : Type} {r : Res α} {k : α → List Tok → Res β} (h1 : Bd r) (h2 : ∀ a l, Bd (k a l)) : Bd (r.andThen k) := by
  cases r with
  | out => exact bd_out
  | bad p e =>
    intro q e' h
    simp only [Res.andThen] at h
    injection h with _ h
    rw [← h]
    exact h1 p e rfl
  | ok a l => exact h2 a l
theorem bd_need {k : Nat} {l : List Tok} : Bd (needS k l) := bd_cond (bd_ok _ _) (bd_syn _)
theorem bd_three {α : Type} (p : Nat) : Bd (.bad p 3 : Res α) := fun _ _ h => by
  injection h with _ h
  omega
theorem bd_within {α : Type} {d : Nat} {l : List Tok} {k : Nat → List Tok → Res α} (h : ∀ d l, Bd (k d l)) : Bd (within d l k) := by
  unfold within
  exact bd_cond (bd_three _) (h _ _)
theorem bd_leaf {k : Nat} {l : List Tok} : Bd (leaf k l) := bd_ok _ _

structure BadP (f : Nat) : Prop where
  expr : ∀ d l, Bd (expr f d l)
  casc : ∀ d l, Bd (casc f d l)
  cascL : ∀ d p ks l, Bd (cascL f d p ks l)
  msg : ∀ d l, Bd (msg f d l)
  msgL : ∀ d p t ks l, Bd (msgL f d p t ks l)
  chainL : ∀ d k o n p l, Bd (chainL f d k o n p l)
  keyed : ∀ d l, Bd (keyed f d l)
  binary : ∀ d l, Bd (binary f d l)
  unary : ∀ d l, Bd (unary f d l)
  prim : ∀ d l, Bd (prim f d l)
  lst : ∀ d l, Bd (lst f d l)
  lstL : ∀ d p ks l, Bd (lstL f d p ks l)
  elem : ∀ d l, Bd (elem f d l)
  blk : ∀ d l, Bd (blk f d l)
  blkN : ∀ d p ns l, Bd (blkN f d p ns l)
  body : ∀ d k n l, Bd (body f d k n l)
  bodyN : ∀ d k n l, Bd (bodyN f d k n l)
  bodyL : ∀ d k n l, Bd (bodyL f d k n l)
  stmt : ∀ d l, Bd (stmt f d l)

theorem badP : ∀ f, BadP f := by
  intro f
  induction f with
  | zero => constructor <;> intros <;> simp only [expr, casc, cascL, msg, msgL, chainL, keyed, binary, unary, prim, lst, lstL, elem, blk, blkN, body, bodyN, bodyL, stmt] <;> exact bd_out
  | succ f ih =>
    constructor <;> intros <;> simp only [expr, casc, cascL, msg, msgL, chainL, keyed, binary, unary, prim, lst, lstL, elem, blk, blkN, body, bodyN, bodyL, stmt]
    all_goals
      repeat' first
        | exact bd_ok _ _
        | exact bd_syn _
        | exact bd_need
        | exact bd_three _
        | exact bd_leaf
        | exact ih.expr _ _
        | exact ih.casc _ _
        | exact ih.cascL _ _ _ _
        | exact ih.msg _ _
        | exact ih.msgL _ _ _ _ _
        | exact ih.chainL _ _ _ _ _ _
        | exact ih.keyed _ _
        | exact ih.binary _ _
        | exact ih.unary _ _
        | exact ih.prim _ _
        | exact ih.lst _ _
        | exact ih.lstL _ _ _ _
        | exact ih.elem _ _
        | exact ih.blk _ _
        | exact ih.blkN _ _ _ _
        | exact ih.body _ _ _ _
        | exact ih.bodyN _ _ _ _
        | exact ih.bodyL _ _ _ _
        | exact ih.stmt _ _
        | refine bd_cond ?_ ?_
        | refine bd_then ?_ fun _ _ => ?_
        | refine bd_within fun _ _ => ?_

theorem bd_patL : ∀ f t ns l, Bd (patL f t ns l) := by
  intro f
  induction f with
  | zero => intros; exact bd_out
  | succ f ih =>
    intros
    simp only [patL]
    exact bd_cond (bd_then bd_need fun _ _ => ih _ _ _) (bd_ok _ _)
theorem bd_pat (l : List Tok) : Bd (patS l) := by
  unfold patS
  simp only []
  exact bd_cond (bd_ok _ _) (bd_cond (bd_then bd_need fun _ _ => bd_ok _ _) (bd_cond (bd_then bd_need fun _ _ => bd_then (bd_patL _ _ _ _) fun _ _ => bd_ok _ _) (bd_syn _)))

/-- A source that is refused: why. -/
theorem unit_err {s : List UInt8} {head : List Tok → Res Node} (hh : ∀ l, Bd (head l)) (hno : ∀ l, readS s = .ok l → (head l).andThen (fun n l1 => body (fuelOf l) 0 0 n l1) ≠ .out) {p e : Nat} (h : unitS s head = .error (p, e)) : e ≠ 0 := by
  unfold unitS at h
  cases hr : readS s with
  | error x =>
    rw [hr] at h
    simp only [] at h
    injection h with h
    subst h
    unfold readS at hr
    rcases cond_or hr with ⟨_, h⟩ | ⟨_, h⟩
    · injection h with h
      injection h with _ h
      omega
    · cases hr' : readGo (s.length + 1) s 0 [] with
      | ok x => rw [hr'] at h; simp at h
      | error x =>
        rw [hr'] at h
        injection h with h
        injection h with _ h
        omega
  | ok l =>
    rw [hr] at h
    simp only [] at h
    have hn := hno l hr
    have hb : Bd ((head l).andThen fun n l1 => body (fuelOf l) 0 0 n l1) := bd_then (hh l) fun n l1 => (badP _).body _ _ _ _
    generalize (head l).andThen (fun n l1 => body (fuelOf l) 0 0 n l1) = r at h hn hb
    cases r with
    | out => exact absurd rfl hn
    | ok n l => simp at h
    | bad p' e' =>
      simp only [] at h
      injection h with h
      injection h with _ h
      rw [← h]
      exact hb _ _ rfl
theorem parse_err {s : List UInt8} {p e : Nat} (h : parseS s = .error (p, e)) : e ≠ 0 :=
  unit_err (fun l => bd_ok _ _) (fun l _ => by
    show body (fuelOf l) 0 0 (.mk 12 [] 0 0 [] []) l ≠ .out
    exact (nout (fuelOf l)).body (by unfold fuelOf; omega)) h
end Go.Vx
namespace Go.Vx
open Go Go.Proofs
variable {R : Ending → World → Prop} {g : G} {w : World} {H hp T : Hp}

/-- Units that stay: their cells. -/
inductive UI (g : G) : List CU → List Value → Prop
  | nil : UI g [] []
  | cons {u : CU} {us : List CU} {v : Value} {cs : List Value} (hi : Sl g 3 v u.ins.length (insZ u.ins)) (hr : UI g us cs) : UI g (u :: us) (i64 (u.args : Int) :: i64 (u.names : Int) :: v :: cs)
theorem UI.mono {g g' : G} (hg : g.le g') {us : List CU} {cs : List Value} (h : UI g us cs) : UI g' us cs := by
  induction h with
  | nil => exact .nil
  | cons hi _ ih => exact .cons (hi.mono hg) ih
theorem UR.freeze {us : List CU} {cs : List Value} (h : UR us cs hp) : ∀ {g : G} {w : World} {H : Hp}, Sat g w (hp ++ H) → ∃ g', g.le g' ∧ Sat g' w H ∧ UI g' us cs := by
  induction h with
  | nil => intro g w H hS; exact ⟨g, .refl g, hS, .nil⟩
  | @cons u us v cs hp1 hp2 hg hr ih =>
    intro g w H hS
    rw [List.append_assoc] at hS
    obtain ⟨g1, h1, h2, h3⟩ := hg.freeze hS
    obtain ⟨g2, h4, h5, h6⟩ := ih h2
    exact ⟨g2, h1.trans h4, h5, .cons (h3.mono h4) h6⟩

/-- Steps as the program has them. -/
def CodeR (g : G) (cv : List Value) (sel : List UInt8) (m : MK) : Prop :=
  ∃ vU cU vL vN vS, cv = [str sel, vU, vL, vN, vS] ∧ UI g m.units cU ∧ Sl g 3 vU m.units.length cU ∧ SS g vL m.lits ∧ SS g vN m.names ∧ SS g vS m.sels
theorem CodeR.mono {g g' : G} (hg : g.le g') {cv : List Value} {sel : List UInt8} {m : MK} (h : CodeR g cv sel m) : CodeR g' cv sel m := by
  obtain ⟨vU, cU, vL, vN, vS, h1, h2, h3, h4, h5, h6⟩ := h
  exact ⟨vU, cU, vL, vN, vS, h1, h2.mono hg, h3.mono hg, h4.mono hg, h5.mono hg, h6.mono hg⟩
def cZ : List Value := [str [], .slice none 0 0, .slice none 0 0, .slice none 0 0, .slice none 0 0]
theorem CodeR.zero (g : G) : CodeR g cZ [] ⟨[], [], [], [], []⟩ := ⟨_, [], _, _, _, rfl, .nil, Sl.nil g 3, Sl.nil g 1, Sl.nil g 1, Sl.nil g 1⟩
theorem CodeR.len {cv : List Value} {sel : List UInt8} {m : MK} (h : CodeR g cv sel m) : cv.length = 5 ∧ allOne cv = true := by
  obtain ⟨vU, cU, vL, vN, vS, rfl, _, h3, h4, h5, h6⟩ := h
  refine ⟨rfl, ?_⟩
  simp only [allOne, h3.one, h4.one, h5.one, h6.one]
  rfl

theorem MR.freeze {sel : List UInt8} {b : Nat} {m : MK} (hM : MR g sel b m hp) (hS : Sat g w (hp ++ H)) : ∃ vU vL vN vS vX, (b, mkO sel vU vL vN vS vX) ∈ hp ++ H ∧ ∃ g', g.le g' ∧ Sat g' w H ∧ CodeR g' [str sel, vU, vL, vN, vS] sel m := by
  obtain ⟨vU, cU, hU, hI, vL, hL, vN, hN, vS, hSe, vX, hur, hgU, hgL, hgN, hgS, hX, rfl⟩ := hM
  refine ⟨vU, vL, vN, vS, vX, by simp, ?_⟩
  have h1 : Sat g w ((b, mkO sel vU vL vN vS vX) :: (hU ++ (hI ++ (hL ++ (hN ++ (hSe ++ H)))))) := by simpa using hS
  obtain ⟨g1, e1, h2, s1⟩ := hgU.freeze h1.tail
  obtain ⟨g2, e2, h3, s2⟩ := hur.freeze h2
  obtain ⟨g3, e3, h4, s3⟩ := hgL.freeze h3
  obtain ⟨g4, e4, h5, s4⟩ := hgN.freeze h4
  obtain ⟨g5, e5, h6, s5⟩ := hgS.freeze h5
  exact ⟨g5, e1.trans (e2.trans (e3.trans (e4.trans e5))), h6, vU, cU, vL, vN, vS, rfl, s2.mono (e3.trans (e4.trans e5)), s1.mono (e2.trans (e3.trans (e4.trans e5))), s3.mono (e4.trans e5), s4.mono e5, s5⟩

theorem c_Make {c : List Value} {n : Node} {sv : Value} {slots : List (List UInt8)} (hok : OkU n) (hn : NodeR g c n) (hsl : SS g sv slots) (hsn : slots.length ≤ 4611686018427387904) (hm : msr n ≤ 33554432) (hS : Sat g w H)
    (hgood : ∀ m g' cv w', makeS slots n = .ok m → g.le g' → CodeR g' cv n.text m → tot m ≤ 1073741824 → Sat g' w' H → R (.returned (.tuple #[.agg cv.toArray, i64 0, i64 0])) w')
    (hbad : ∀ p g' w', makeS slots n = .error p → g.le g' → Sat g' w' H → R (.returned (.tuple #[.agg cZ.toArray, i64 ((p : Nat) : Int), i64 21])) w') : Tr P F.code_Make [.agg c.toArray, sv] w R := by
  apply t_code_Make
  unfold d_code_Make
  have hlen := hn.len
  have e : (Value.agg c.toArray).cells.toList = c := by simp [Value.cells]
  rw [e]
  refine hS.al fun b2 w1 h1 => h1.al fun b4 w2 h2 => ?_
  have h2 : Sat g w2 ((b4, .cells cZ.toArray 25) :: (b2, box c) :: H) := h2
  refine h2.ldnH (b := b2) (c := c) (t := Ty.tree_Node) (fr := (0, 0)) (by simp) 6 0 (by omega) ?_
  rw [List.drop_zero, List.take_of_length_le (by omega)]
  try simp only [↓E1, ↓E2, ↓E3, Nat.reduceAdd]
  refine c_Resolve hn hsl hsn (by omega) h2 (fun l g3 lv w3 hr hg3 hlv hll h3 => ?_) (fun p g3 w3 hr hg3 h3 => ?_)
  · try simp only [↓E1, ↓E2, ↓E3, Nat.reduceAdd]
    have hmk : makeS slots n = .ok (unitC n ⟨[], [], [], [], l⟩) := by unfold makeS; rw [hr]
    try simp only [decide_true, Bool.not_true, ↓E1, ↓E2, ↓E3, Nat.reduceAdd]
    have hc1 : c.getD 1 undef = str n.text := by cases hn; rfl
    rw [h3.ld1 1 _ (by omega), hc1]
    refine bdI (cs := [str n.text, .slice none 0 0, .slice none 0 0, .slice none 0 0, .slice none 0 0]) rfl ?_
    obtain ⟨la, lc, rfl, _, _, _⟩ := id hlv
    refine bdI (cs := [str n.text, .slice none 0 0, .slice none 0 0, .slice none 0 0, .slice none 0 0, .slice la l.length lc]) rfl ?_
    refine h3.al fun b28 w4 h4 => ?_
    have h4 : Sat g3 w4 ([(b28, mkO n.text (.slice none 0 0) (.slice none 0 0) (.slice none 0 0) (.slice none 0 0) (.slice la l.length lc))] ++ ((b4, .cells cZ.toArray 25) :: (b2, box c) :: H)) := h4
    have hM : MR g3 n.text b28 ⟨[], [], [], [], l⟩ [(b28, mkO n.text (.slice none 0 0) (.slice none 0 0) (.slice none 0 0) (.slice none 0 0) (.slice la l.length lc))] :=
      ⟨_, [], [], [], _, [], _, [], _, [], _, .nil, .nil, .nil, .nil, .nil, hlv, rfl⟩
    refine h4.ldnH (b := b2) (c := c) (t := Ty.tree_Node) (fr := (0, 0)) (by simp) 6 0 (by omega) ?_
    rw [List.drop_zero, List.take_of_length_le (by omega)]
    try simp only [↓E1, ↓E2, ↓E3, Nat.reduceAdd]
    have hunit : UnitM n := by
      cases hok with
      | mk _ hks => exact c_unitM fun x hx => stmtM_of (hks x hx) (c_partM x)
    have hnu : nU n ≤ l.length := by
      cases hok with
      | mk _ hks =>
        have := resolve_len (fun x hx => (okV_of x).2.2.1 (hks x hx)) hr
        rw [this]
        simp only [nU]
        show 0 + _ ≤ _
        omega
    refine hunit (hn.mono hg3) hM hnu (by show 0 + _ ≤ _; omega) h4 fun hp5 w5 hM5 h5 => ?_
    have htot : tot (unitC n ⟨[], [], [], [], l⟩) ≤ 1073741824 := by
      cases hok with
      | @mk p nn t ns ks _ hks =>
        have := (le_unitOf (k := 12) (t := t) (n := nn) (names := ns.length) (kids := ks.length) (fun u m => le_stmts (ks := ks) (fun x _ => le_part x) u true m) ⟨[], [], [], [], l⟩).tot
        have e0 : tot ⟨[], [], [], [], l⟩ = 0 := rfl
        rw [e0] at this
        simp only [msr] at hm
        exact Nat.le_trans this (by omega)
    try simp only [↓E1, ↓E2, ↓E3, Nat.reduceAdd]
    obtain ⟨vU, vL, vN, vS, vX, hmem, g6, hg6, h6, hcode⟩ := hM5.freeze h5
    refine h5.ldnH (b := b28) (c := [str n.text, vU, vL, vN, vS, vX]) (t := Ty.code_maker) (fr := (0, 0)) hmem 5 0 (by simp) ?_
    have e5 : (([str n.text, vU, vL, vN, vS, vX] : List Value).drop 0).take 5 = [str n.text, vU, vL, vN, vS] := rfl
    rw [e5]
    refine st_all (c := [str n.text, vU, vL, vN, vS]) (c2 := cZ) h6 rfl rfl hcode.len.2 fun w7 h7 => ?_
    refine h7.ldn0 (c := [str n.text, vU, vL, vN, vS]) rfl ?_
    exact hgood _ g6 _ w7 hmk (hg3.trans hg6) hcode htot h7.tail.tail
  · try simp only [↓E1, ↓E2, ↓E3, Nat.reduceAdd]
    have hmk : makeS slots n = .error p := by unfold makeS; rw [hr]
    rw [show decide ((21 : Int) = 0) = false from rfl]
    try simp only [↓E1, ↓E2, ↓E3, Bool.not_false, Nat.reduceAdd]
    refine bdI (cs := cZ) rfl ?_
    refine st_all (c := cZ) (c2 := cZ) h3 rfl rfl rfl fun w4 h4 => ?_
    refine h4.ldn0 (c := cZ) rfl ?_
    exact hbad p g3 w4 hmk hg3 h4.tail.tail

theorem parse_shape {s : List UInt8} {n : Node} (h : parseS s = .ok n) : OkU n ∧ msr n ≤ 33554432 := by
  unfold parseS unitS at h
  cases hr : readS s with
  | error x => rw [hr] at h; simp at h
  | ok l =>
    rw [hr] at h
    have hw := readS_wf hr
    have htm := tm_le (b := 4096) hw.text
    have hll := hw.len
    simp only [] at h
    cases hb : (Res.andThen (.ok (.mk 12 [] 0 0 [] []) l) fun n l1 => body (fuelOf l) 0 0 n l1) with
    | out => rw [hb] at h; simp at h
    | bad p e => rw [hb] at h; simp at h
    | ok n' l' =>
      rw [hb] at h
      injection h with h
      subst h
      have hb : body (fuelOf l) 0 0 (.mk 12 [] 0 0 [] []) l = .ok n' l' := hb
      obtain ⟨ns', ks', h1, h2, h3⟩ := (shape (fuelOf l)).body hb (by simp)
      have : tm l ≤ 16785409 := Nat.le_trans htm (Nat.mul_le_mul_right _ hll)
      simp only [msr, nsM, msrs, List.length_nil] at h3
      refine ⟨?_, by omega⟩
      rw [h1]
      exact .mk (by simp) h2

theorem c_Compile {s : List UInt8} {sv : Value} {slots : List (List UInt8)} (hs : s.length ≤ 9223372036854775807) (hsl : SS g sv slots) (hsn : slots.length ≤ 4611686018427387904) (hS : Sat g w H)
    (hgood : ∀ sel m g' cv w', compileS slots s = .ok (sel, m) → g.le g' → CodeR g' cv sel m → tot m ≤ 1073741824 → Sat g' w' H → R (.returned (.tuple #[.agg cv.toArray, i64 0, i64 0])) w')
    (hbad : ∀ (p e : Nat) g' w', compileS slots s = .error (p, e) → g.le g' → Sat g' w' H → R (.returned (.tuple #[.agg cZ.toArray, i64 (p : Int), i64 (e : Int)])) w') : Tr P F.code_Compile [str s, sv] w R := by
  apply t_code_Compile
  unfold d_code_Compile
  refine hS.al fun b4 w1 h1 => ?_
  have h1 : Sat g w1 ((b4, .cells cZ.toArray 25) :: H) := h1
  try simp only [↓E2]
  refine c_Parse whole_ok hs h1 (fun n g2 c w2 hp hg2 hc h2 => ?_) (fun q e g2 w2 hp hg2 h2 => ?_)
  · try simp only [↓E1, ↓E2, ↓E3, Nat.reduceAdd]
    obtain ⟨hou, hms⟩ := parse_shape hp
    refine h2.al fun b7 w3 h3 => ?_
    refine st_box (c2 := zN) h3 hc.len rfl hc.one fun w4 h4 => ?_
    try simp only [decide_true, Bool.not_true, ↓E1, ↓E2, ↓E3, Nat.reduceAdd]
    refine h4.ldn0 (c := c) hc.len.symm ?_
    try simp only [↓E1, ↓E2, ↓E3, Nat.reduceAdd]
    refine c_Make hou hc (hsl.mono hg2) hsn hms h4.tail (fun m g5 cv w5 hmk hg5 hcv htot h5 => ?_) (fun p g5 w5 hmk hg5 h5 => ?_)
    · try simp only [↓E1, ↓E2, ↓E3, Nat.reduceAdd]
      refine st_all (c := cv) (c2 := cZ) h5 hcv.len.1 rfl hcv.len.2 fun w6 h6 => ?_
      refine h6.ldn0 (c := cv) hcv.len.1.symm ?_
      exact hgood n.text m g5 cv w6 (by unfold compileS codeS; rw [hp]; simp only [hmk]) (hg2.trans hg5) hcv htot h6.tail
    · try simp only [↓E1, ↓E2, ↓E3, Nat.reduceAdd]
      refine st_all (c := cZ) (c2 := cZ) h5 rfl rfl rfl fun w6 h6 => ?_
      refine h6.ldn0 (c := cZ) rfl ?_
      exact hbad p 21 g5 w6 (by unfold compileS codeS; rw [hp]; simp only [hmk]) (hg2.trans hg5) h6.tail
  · try simp only [↓E1, ↓E2, ↓E3, Nat.reduceAdd]
    have he : e ≠ 0 := parse_err hp
    refine h2.al fun b7 w3 h3 => ?_
    refine st_box (c := zN) (c2 := zN) h3 rfl rfl rfl fun w4 h4 => ?_
    have : decide ((e : Int) = 0) = false := by rw [decide_eq_false_iff_not]; omega
    rw [this]
    try simp only [↓E1, ↓E2, ↓E3, Bool.not_false, Nat.reduceAdd]
    refine bdI (cs := cZ) rfl ?_
    refine st_all (c := cZ) (c2 := cZ) h4.tail rfl rfl rfl fun w5 h5 => ?_
    refine h5.ldn0 (c := cZ) rfl ?_
    exact hbad q e g2 w5 (by unfold compileS codeS; rw [hp]) hg2 h5.tail
end Go.Vx
namespace Go.Vx
open Go Go.Proofs
variable {R : Ending → World → Prop} {g : G} {w : World} {H hp T : Hp}

theorem c_MethodT (hW : WholeOK) {s : List UInt8} (hlen : s.length ≤ 9223372036854775807) (hS : Sat g w H)
    (hok : ∀ n g' c w', methodS s = .ok n → g.le g' → NodeR g' c n → Sat g' w' H → R (.returned (.tuple #[.agg c.toArray, i64 0, i64 0])) w')
    (herr : ∀ (q e : Nat) g' w', methodS s = .error (q, e) → g.le g' → Sat g' w' H → R (.returned (.tuple #[.agg zN.toArray, i64 (q : Int), i64 (e : Int)])) w') : Tr P F.tree_Method [str s] w R := by
  apply t_tree_Method
  unfold d_tree_Method
  refine hS.al fun b2 w1 h1 => ?_
  have h1 : Sat g w1 ((b2, box zN) :: H) := h1
  simp only [↓E2]
  refine c_unit hW head_method hlen h1 (fun l _ => ⟨patS_nout l, fun n l1 h => patS_ok h⟩) (fun n g1 c w2 hu hg1 hc h2 => ?_) (fun q e g1 w2 hu hg1 h2 => ?_)
  · simp only [↓E2, ↓E3]
    refine st_box h2 hc.len rfl hc.one fun w3 h3 => ?_
    refine h3.ldn0 (c := c) hc.len.symm ?_
    exact hok n g1 c w3 hu hg1 hc h3.tail
  · simp only [↓E2, ↓E3]
    refine st_box (c := zN) h2 rfl rfl rfl fun w3 h3 => ?_
    refine h3.ldn0 (c := zN) rfl ?_
    exact herr q e g1 w3 hu hg1 h3.tail

theorem patL_msr : ∀ (f : Nat) {t : List UInt8} {ns : List (List UInt8)} {l l' : List Tok} {x : List UInt8 × List (List UInt8)}, patL f t ns l = .ok x l' → x.1.length + nsM x.2 + tm l' ≤ t.length + nsM ns + tm l := by
  intro f
  induction f with
  | zero => intro t ns l l' x h; simp [patL] at h
  | succ f ih =>
    intro t ns l l' x h
    simp only [patL] at h
    rcases cond_or h with ⟨hb, h⟩ | ⟨_, h⟩
    · obtain ⟨a, l1, h1, h2⟩ := andThen_ok h
      obtain ⟨hb1, rfl, rfl⟩ := need_ok h1
      have h3 := ih h2
      have h4 := tm_tk hb (by decide)
      have h5 := tm_tk hb1 (by decide)
      rw [nsM_app, List.length_append] at h3
      simp only [nsM] at h3
      omega
    · injection h with h1 h2
      subst h1 h2
      exact Nat.le_refl _
theorem patS_msr {l l' : List Tok} {n : Node} (h : patS l = .ok n l') : ∃ t names, n = .mk 12 t 0 names.length names [] ∧ msr n + tm l' ≤ 1 + tm l := by
  unfold patS at h
  rcases cond_or h with ⟨hb, h⟩ | ⟨_, h⟩
  · injection h with h1 h2
    subst h1 h2
    have := tm_tk hb (by decide)
    exact ⟨_, _, rfl, by simp only [msr, nsM, msrs]; omega⟩
  rcases cond_or h with ⟨hb, h⟩ | ⟨_, h⟩
  · obtain ⟨a, l1, h1, h2⟩ := andThen_ok h
    obtain ⟨hb1, rfl, rfl⟩ := need_ok h1
    injection h2 with h2 h3
    subst h2 h3
    have h4 := tm_tk hb (by decide)
    have h5 := tm_tk hb1 (by decide)
    exact ⟨_, _, rfl, by simp only [msr, nsM, msrs]; omega⟩
  rcases cond_or h with ⟨hb, h⟩ | ⟨_, h⟩
  · obtain ⟨a, l1, h1, h2⟩ := andThen_ok h
    obtain ⟨hb1, rfl, rfl⟩ := need_ok h1
    obtain ⟨x, l2, h3, h4⟩ := andThen_ok h2
    have h5 := patL_msr _ h3
    injection h4 with h4 h6
    subst h4 h6
    have h7 := tm_tk hb (by decide)
    have h8 := tm_tk hb1 (by decide)
    simp only [nsM] at h5
    exact ⟨_, _, rfl, by simp only [msr, msrs]; omega⟩
  · simp [syn] at h

theorem method_shape {s : List UInt8} {n : Node} (h : methodS s = .ok n) : OkU n ∧ msr n ≤ 33554432 := by
  unfold methodS unitS at h
  cases hr : readS s with
  | error x => rw [hr] at h; simp at h
  | ok l =>
    rw [hr] at h
    have hw := readS_wf hr
    have htm := tm_le (b := 4096) hw.text
    have hll := hw.len
    simp only [] at h
    cases hb : ((patS l).andThen fun n l1 => body (fuelOf l) 0 0 n l1) with
    | out => rw [hb] at h; simp at h
    | bad p e => rw [hb] at h; simp at h
    | ok n' l' =>
      rw [hb] at h
      injection h with h
      subst h
      obtain ⟨n1, l1, hp, hb⟩ := andThen_ok hb
      obtain ⟨t, names, rfl, hm⟩ := patS_msr hp
      obtain ⟨ns', ks', h1, h2, h3⟩ := (shape (fuelOf l)).body hb (by simp)
      have : tm l ≤ 16785409 := Nat.le_trans htm (Nat.mul_le_mul_right _ hll)
      refine ⟨?_, by omega⟩
      rw [h1]
      exact .mk (by simp) h2

theorem method_err {s : List UInt8} {p e : Nat} (h : methodS s = .error (p, e)) : e ≠ 0 := by
  refine unit_err (fun l => bd_pat l) (fun l _ => ?_) h
  cases hp : patS l with
  | out => exact absurd hp (patS_nout l)
  | bad p e => simp [Res.andThen]
  | ok n l1 =>
    have := (patS_ok hp).1
    obtain ⟨t, nn, names, rfl⟩ := (patS_ok hp).2
    simp only [Res.andThen]
    exact (nout (fuelOf l)).body (by unfold fuelOf; omega)

def methS (slots : List (List UInt8)) (s : List UInt8) : Except (Nat × Nat) (List UInt8 × MK) := codeS slots (methodS s)
theorem meth_err {slots : List (List UInt8)} {s : List UInt8} {p e : Nat} (h : methS slots s = .error (p, e)) : e ≠ 0 := by
  unfold methS codeS at h
  cases hp : methodS s with
  | error x =>
    obtain ⟨q, e'⟩ := x
    rw [hp] at h
    injection h with h
    injection h with h1 h2
    subst h1 h2
    exact method_err hp
  | ok n =>
    rw [hp] at h
    simp only [] at h
    cases hm : makeS slots n with
    | error p =>
      rw [hm] at h
      injection h with h
      injection h with _ h
      omega
    | ok m => rw [hm] at h; simp at h

theorem c_Method {s : List UInt8} {sv : Value} {slots : List (List UInt8)} (hs : s.length ≤ 9223372036854775807) (hsl : SS g sv slots) (hsn : slots.length ≤ 4611686018427387904) (hS : Sat g w H)
    (hgood : ∀ sel m g' cv w', methS slots s = .ok (sel, m) → g.le g' → CodeR g' cv sel m → tot m ≤ 1073741824 → Sat g' w' H → R (.returned (.tuple #[.agg cv.toArray, i64 0, i64 0])) w')
    (hbad : ∀ (p e : Nat) g' w', methS slots s = .error (p, e) → g.le g' → Sat g' w' H → R (.returned (.tuple #[.agg cZ.toArray, i64 (p : Int), i64 (e : Int)])) w') : Tr P F.code_Method [str s, sv] w R := by
  apply t_code_Method
  unfold d_code_Method
  refine hS.al fun b4 w1 h1 => ?_
  have h1 : Sat g w1 ((b4, .cells cZ.toArray 25) :: H) := h1
  try simp only [↓E2]
  refine c_MethodT whole_ok hs h1 (fun n g2 c w2 hp hg2 hc h2 => ?_) (fun q e g2 w2 hp hg2 h2 => ?_)
  · try simp only [↓E1, ↓E2, ↓E3, Nat.reduceAdd]
    obtain ⟨hou, hms⟩ := method_shape hp
    refine h2.al fun b7 w3 h3 => ?_
    refine st_box (c2 := zN) h3 hc.len rfl hc.one fun w4 h4 => ?_
    try simp only [decide_true, Bool.not_true, ↓E1, ↓E2, ↓E3, Nat.reduceAdd]
    refine h4.ldn0 (c := c) hc.len.symm ?_
    try simp only [↓E1, ↓E2, ↓E3, Nat.reduceAdd]
    refine c_Make hou hc (hsl.mono hg2) hsn hms h4.tail (fun m g5 cv w5 hmk hg5 hcv htot h5 => ?_) (fun p g5 w5 hmk hg5 h5 => ?_)
    · try simp only [↓E1, ↓E2, ↓E3, Nat.reduceAdd]
      refine st_all (c := cv) (c2 := cZ) h5 hcv.len.1 rfl hcv.len.2 fun w6 h6 => ?_
      refine h6.ldn0 (c := cv) hcv.len.1.symm ?_
      exact hgood n.text m g5 cv w6 (by unfold methS codeS; rw [hp]; simp only [hmk]) (hg2.trans hg5) hcv htot h6.tail
    · try simp only [↓E1, ↓E2, ↓E3, Nat.reduceAdd]
      refine st_all (c := cZ) (c2 := cZ) h5 rfl rfl rfl fun w6 h6 => ?_
      refine h6.ldn0 (c := cZ) rfl ?_
      exact hbad p 21 g5 w6 (by unfold methS codeS; rw [hp]; simp only [hmk]) (hg2.trans hg5) h6.tail
  · try simp only [↓E1, ↓E2, ↓E3, Nat.reduceAdd]
    have he : e ≠ 0 := method_err hp
    refine h2.al fun b7 w3 h3 => ?_
    refine st_box (c := zN) (c2 := zN) h3 rfl rfl rfl fun w4 h4 => ?_
    have : decide ((e : Int) = 0) = false := by rw [decide_eq_false_iff_not]; omega
    rw [this]
    try simp only [↓E1, ↓E2, ↓E3, Bool.not_false, Nat.reduceAdd]
    refine bdI (cs := cZ) rfl ?_
    refine st_all (c := cZ) (c2 := cZ) h4.tail rfl rfl rfl fun w5 h5 => ?_
    refine h5.ldn0 (c := cZ) rfl ?_
    exact hbad q e g2 w5 (by unfold methS codeS; rw [hp]) hg2 h5.tail
end Go.Vx
namespace Go.Vx

/-- An answer only comes last. -/
def RetL : List Node → Prop
  | [] => True
  | k :: ks => (ks = [] ∨ k.kind ≠ 11) ∧ RetL ks
theorem retL_snoc {ks : List Node} {k : Node} (h : ∀ x ∈ ks, x.kind ≠ 11) : RetL (ks ++ [k]) := by
  induction ks with
  | nil => exact ⟨.inl rfl, trivial⟩
  | cons x ks ih => exact ⟨.inr (h x (by simp)), ih fun y hy => h y (by simp [hy])⟩
mutual
def SelN : Node → Prop
  | .mk k t _ _ _ ks => (k = 7 → SelOK t (ks.length - 1)) ∧ (k = 9 → SelOK t ks.length) ∧ SelNs ks ∧ (k = 10 ∨ k = 12 → RetL ks)
def SelNs : List Node → Prop
  | [] => True
  | k :: ks => SelN k ∧ SelNs ks
end
theorem selNs_app {a b : List Node} (h : SelNs a) (h' : SelNs b) : SelNs (a ++ b) := by
  induction a with
  | nil => exact h'
  | cons k a ih =>
    simp only [List.cons_append, SelNs] at h ⊢
    exact ⟨h.1, ih h.2⟩
theorem selNs_snoc {a : List Node} {k : Node} (h : SelNs a) (hk : SelN k) : SelNs (a ++ [k]) := selNs_app h (by simp only [SelNs]; exact ⟨hk, trivial⟩)
theorem selNs_mem {a : List Node} (h : SelNs a) : ∀ x ∈ a, SelN x := by
  induction a with
  | nil => simp
  | cons k a ih =>
    simp only [SelNs] at h
    intro x hx
    rcases List.mem_cons.1 hx with rfl | hx
    · exact h.1
    · exact ih h.2 x hx
theorem sel_leaf' {k p n : Nat} {t : List UInt8} {ns : List (List UInt8)} {ks : List Node} (h7 : k ≠ 7) (h9 : k ≠ 9) (hk : SelNs ks) (hr : RetL ks) : SelN (.mk k t p n ns ks) := by
  simp only [SelN]
  exact ⟨fun h => absurd h h7, fun h => absurd h h9, hk, fun _ => hr⟩
theorem sel_leaf {k p n : Nat} {t : List UInt8} {ns : List (List UInt8)} {ks : List Node} (h : k = 1 ∨ k = 2 ∨ k = 3 ∨ k = 4 ∨ k = 5 ∨ k = 6 ∨ k = 8 ∨ k = 11 ∨ k = 13) (hk : SelNs ks) : SelN (.mk k t p n ns ks) := by
  simp only [SelN]
  exact ⟨fun h => by omega, fun h => by omega, hk, fun h => by omega⟩

/-- A result's part and words are good. -/
def Gt {α : Type} (P : α → Prop) (r : Res α) : Prop := ∀ a l', r = .ok a l' → P a ∧ TL l'
theorem gt_out {α : Type} {P : α → Prop} : Gt P (.out : Res α) := fun a l h => by simp at h
theorem gt_bad {α : Type} {P : α → Prop} (p e : Nat) : Gt P (.bad p e : Res α) := fun a l h => by simp at h
theorem gt_syn {α : Type} {P : α → Prop} (l : List Tok) : Gt P (syn l : Res α) := gt_bad _ _
theorem gt_ok {α : Type} {P : α → Prop} {a : α} {l : List Tok} (h : P a) (hl : TL l) : Gt P (.ok a l) := fun b l' he => by
  injection he with h1 h2
  subst h1 h2
  exact ⟨h, hl⟩
theorem gt_cond {α : Type} {P : α → Prop} {c : Bool} {x y : Res α} (h1 : c = true → Gt P x) (h2 : c = false → Gt P y) : Gt P (bif c then x else y) := by
  cases c
  · exact h2 rfl
  · exact h1 rfl
theorem gt_then {α β : Type} {P : α → Prop} {Q : β → Prop} {r : Res α} {k : α → List Tok → Res β} (h : Gt P r) (hk : ∀ a l, P a → TL l → Gt Q (k a l)) : Gt Q (r.andThen k) := by
  cases r with
  | out => exact gt_out
  | bad p e => exact gt_bad _ _
  | ok a l => exact hk a l (h a l rfl).1 (h a l rfl).2
theorem TL.hd {l : List Tok} (h : TL l) : TokOK (hd l) := by
  cases l with
  | nil => exact tok_other (by decide) (by decide) (by decide)
  | cons t l => exact h t (by simp)
theorem TL.tail {l : List Tok} (h : TL l) : TL l.tail := fun t ht => h t (List.mem_of_mem_tail ht)
theorem TL.tk {l : List Tok} (h : TL l) : TL (tk l) := by
  unfold Vx.tk
  cases Nat.beq (kd l) 0
  · exact h.tail
  · exact h
theorem gt_need {k : Nat} {l : List Tok} (hl : TL l) : Gt (fun t => t = Vx.hd l ∧ Nat.beq (kd l) k = true) (needS k l) := by
  unfold needS
  exact gt_cond (fun h => gt_ok ⟨rfl, h⟩ hl.tk) fun _ => gt_syn _
theorem gt_within {α : Type} {P : α → Prop} {d : Nat} {l : List Tok} {k : Nat → List Tok → Res α} (hl : TL l) (h : ∀ d l1, TL l1 → Gt P (k d l1)) : Gt P (within d l k) := by
  unfold within
  exact gt_cond (fun _ => gt_bad _ _) fun _ => h _ _ hl.tk
theorem gt_leaf {k : Nat} {l : List Tok} (hl : TL l) (h : k = 1 ∨ k = 2 ∨ k = 3 ∨ k = 4 ∨ k = 5 ∨ k = 6 ∨ k = 8 ∨ k = 11 ∨ k = 13) : Gt SelN (leaf k l) := gt_ok (sel_leaf h trivial) hl.tk

def SelM (n : Node) : Prop := SelN n ∧ n.kind = 9
theorem sel_send {n m : Node} (hn : SelN n) (hm : SelM m) : SelN (sendN n m) := by
  obtain ⟨k, t, p, nn, ns, ks⟩ := m
  obtain ⟨h1, h2⟩ := hm
  simp only [Node.kind] at h2
  subst h2
  simp only [SelN] at h1
  simp only [sendN, Node.text, Node.pos, Node.kids, SelN, SelNs, List.length_cons]
  exact ⟨fun _ => h1.2.1 trivial, by simp, ⟨hn, h1.2.2.1⟩, by simp⟩

structure SelP (f : Nat) : Prop where
  expr : ∀ d l, TL l → Gt SelN (expr f d l)
  casc : ∀ d l, TL l → Gt SelN (casc f d l)
  cascL : ∀ d p ks l, TL l → SelNs ks → Gt SelN (cascL f d p ks l)
  msg : ∀ d l, TL l → Gt SelM (msg f d l)
  msgL : ∀ d p t ks l, TL l → KeysT ks.length t → SelNs ks → Gt SelM (msgL f d p t ks l)
  chainL : ∀ d k o n p l, TL l → SelN n → Gt (fun x => SelN x.1) (chainL f d k o n p l)
  keyed : ∀ d l, TL l → Gt (fun x => SelN x.1) (keyed f d l)
  binary : ∀ d l, TL l → Gt (fun x => SelN x.1) (binary f d l)
  unary : ∀ d l, TL l → Gt (fun x => SelN x.1) (unary f d l)
  prim : ∀ d l, TL l → Gt (fun x => SelN x.1) (prim f d l)
  lst : ∀ d l, TL l → Gt SelN (lst f d l)
  lstL : ∀ d p ks l, TL l → SelNs ks → Gt SelN (lstL f d p ks l)
  elem : ∀ d l, TL l → Gt SelN (elem f d l)
  blk : ∀ d l, TL l → Gt SelN (blk f d l)
  blkN : ∀ d p ns l, TL l → Gt SelN (blkN f d p ns l)
  body : ∀ d k n l, TL l → SelN n → n.kind ≠ 7 → n.kind ≠ 9 → (∀ x ∈ n.kids, x.kind ≠ 11) → Gt SelN (body f d k n l)
  bodyN : ∀ d k n l, TL l → SelN n → n.kind ≠ 7 → n.kind ≠ 9 → (∀ x ∈ n.kids, x.kind ≠ 11) → Gt SelN (bodyN f d k n l)
  bodyL : ∀ d k n l, TL l → SelN n → n.kind ≠ 7 → n.kind ≠ 9 → (∀ x ∈ n.kids, x.kind ≠ 11) → Gt SelN (bodyL f d k n l)
  stmt : ∀ d l, TL l → Gt (fun x => SelN x.1 ∧ (x.2 = false → x.1.kind ≠ 11)) (stmt f d l)

theorem sel_addName {n : Node} {t : List UInt8} (h : SelN n) : SelN (addName n t) := by
  obtain ⟨k, t, p, nn, ns, ks⟩ := n
  exact h
theorem sel_addKid {n k : Node} (h : SelN n) (hk : SelN k) (h7 : n.kind ≠ 7) (h9 : n.kind ≠ 9) (hr : ∀ x ∈ n.kids, x.kind ≠ 11) : SelN (addKid n k) := by
  obtain ⟨k0, t, p, nn, ns, ks⟩ := n
  simp only [SelN] at h
  exact sel_leaf' h7 h9 (selNs_snoc h.2.2.1 hk) (retL_snoc hr)

theorem selP : ∀ f, SelP f := by
  intro f
  induction f with
  | zero => constructor <;> intros <;> (simp only [expr, casc, cascL, msg, msgL, chainL, keyed, binary, unary, prim, lst, lstL, elem, blk, blkN, body, bodyN, bodyL, stmt]; exact gt_out)
  | succ f ih =>
    constructor
    · intro d l hl
      simp only [expr]
      exact gt_cond (fun _ => gt_within hl.tk fun d l1 h1 => gt_then (ih.expr d l1 h1) fun e l2 he h2 => gt_ok (sel_leaf (by decide) ⟨he, trivial⟩) h2) fun _ => ih.casc d l hl
    · intro d l hl
      simp only [casc]
      refine gt_then (ih.keyed d l hl) fun np l1 hnp h1 => gt_cond (fun _ => gt_cond (fun hb => ih.cascL _ _ _ _ h1 ?_) fun _ => gt_syn _) fun _ => gt_ok hnp h1
      rw [Bool.and_eq_true] at hb
      obtain ⟨⟨k, t, p, nn, ns, ks⟩, b⟩ := np
      have hk : k = 7 := Nat.eq_of_beq_eq_true hb.1
      subst hk
      simp only [SelN] at hnp
      simp only [Node.kids, Node.text, Node.pos, SelNs, SelN]
      cases ks with
      | nil => exact ⟨by simp [nod0, SelN, SelNs], ⟨by simp, fun _ => hnp.1 trivial, trivial, by simp⟩, trivial⟩
      | cons r ks =>
        simp only [SelNs, List.length_cons, Nat.add_sub_cancel] at hnp
        exact ⟨hnp.2.2.1.1, ⟨by simp, fun _ => hnp.1 trivial, hnp.2.2.1.2, by simp⟩, trivial⟩
    · intro d p ks l hl hk
      simp only [cascL]
      exact gt_cond (fun _ => gt_then (ih.msg d _ hl.tk) fun m l1 hm h1 => ih.cascL _ _ _ _ h1 (selNs_snoc hk hm.1)) fun _ => gt_ok (sel_leaf (by decide) hk) hl
    · intro d l hl
      simp only [msg]
      refine gt_cond (fun h => gt_ok ?_ hl.tk) fun _ => gt_cond (fun h => gt_then (ih.unary d _ hl.tk) fun np l1 hnp h1 => gt_ok ?_ h1) fun _ => gt_cond (fun _ => ih.msgL _ _ _ _ _ hl .nil trivial) fun _ => gt_syn _
      · refine ⟨?_, rfl⟩
        simp only [SelN]
        exact ⟨by simp, fun _ => sel_name (hl.hd.1 (Nat.eq_of_beq_eq_true h)), trivial, by simp⟩
      · refine ⟨?_, rfl⟩
        simp only [SelN, SelNs]
        exact ⟨by simp, fun _ => sel_sign (hl.hd.2.2 (Nat.eq_of_beq_eq_true h)), ⟨hnp, trivial⟩, by simp⟩
    · intro d p t ks l hl ht hk
      simp only [msgL]
      refine gt_cond (fun h => gt_then (ih.binary d _ hl.tk) fun np l1 hnp h1 => ih.msgL _ _ _ _ _ h1 ?_ (selNs_snoc hk hnp)) fun _ => gt_ok ⟨?_, rfl⟩ hl
      · obtain ⟨m, hm, he⟩ := hl.hd.2.1 (Nat.eq_of_beq_eq_true h)
        rw [he, List.length_append]
        exact .snoc ht hm
      · simp only [SelN]
        exact ⟨by simp, fun _ => sel_keys ht, hk, by simp⟩
    · intro d k o n p l hl hn
      simp only [chainL]
      exact gt_cond (fun _ => gt_then (ih.msg d l hl) fun m l1 hm h1 => gt_cond (fun _ => gt_ok (sel_send hn hm) h1) fun _ => ih.chainL _ _ _ _ _ _ h1 (sel_send hn hm)) fun _ => gt_ok hn hl
    · intro d l hl
      simp only [keyed]
      exact gt_then (ih.binary d l hl) fun np l1 hnp h1 => ih.chainL _ _ _ _ _ _ h1 hnp
    · intro d l hl
      simp only [binary]
      exact gt_then (ih.unary d l hl) fun np l1 hnp h1 => ih.chainL _ _ _ _ _ _ h1 hnp
    · intro d l hl
      simp only [unary]
      exact gt_then (ih.prim d l hl) fun np l1 hnp h1 => ih.chainL _ _ _ _ _ _ h1 hnp
    · intro d l hl
      simp only [prim]
      have lf : ∀ {k : Nat}, (k = 1 ∨ k = 2 ∨ k = 3 ∨ k = 4 ∨ k = 5 ∨ k = 6 ∨ k = 8 ∨ k = 11 ∨ k = 13) → Gt (fun x : Node × Bool => SelN x.1) ((leaf k l).andThen fun n l1 => .ok (n, true) l1) := fun h7 => gt_then (gt_leaf hl h7) fun n l1 hn h1 => gt_ok hn h1
      refine gt_cond (fun _ => lf (by decide)) fun _ => gt_cond (fun _ => lf (by decide)) fun _ => gt_cond (fun _ => lf (by decide)) fun _ => gt_cond (fun _ => lf (by decide)) fun _ =>
        gt_cond (fun _ => gt_then (ih.lst d l hl) fun n l1 hn h1 => gt_ok hn h1) fun _ => gt_cond (fun _ => gt_then (ih.blk d l hl) fun n l1 hn h1 => gt_ok hn h1) fun _ =>
        gt_cond (fun _ => gt_within hl fun d l1 h1 => gt_then (ih.expr d l1 h1) fun e l2 he h2 => gt_then (gt_need h2) fun _ l3 _ h3 => gt_ok he h3) fun _ => gt_syn _
    · intro d l hl
      simp only [lst]
      exact gt_within hl fun d l1 h1 => ih.lstL _ _ _ _ h1 trivial
    · intro d p ks l hl hk
      simp only [lstL]
      exact gt_cond (fun _ => gt_ok (sel_leaf (by decide) hk) hl.tk) fun _ => gt_then (ih.elem d l hl) fun e l1 he h1 => ih.lstL _ _ _ _ h1 (selNs_snoc hk he)
    · intro d l hl
      simp only [elem]
      refine gt_cond (fun _ => ih.lst d l hl) fun _ => gt_cond (fun _ => gt_leaf hl (by decide)) fun _ => gt_cond (fun _ => gt_leaf hl (by decide)) fun _ => gt_cond (fun _ => ?_) fun _ => gt_cond (fun _ => gt_leaf hl (by decide)) fun _ => gt_syn _
      cases (hd l).text == trueT || ((hd l).text == falseT || (hd l).text == nilT)
      · exact gt_leaf hl (by decide)
      · exact gt_leaf hl (by decide)
    · intro d l hl
      simp only [blk]
      exact gt_within hl fun d l1 h1 => ih.blkN _ _ _ _ h1
    · intro d p ns l hl
      simp only [blkN]
      have hb : ∀ l1, TL l1 → Gt SelN ((body f d 11 (.mk 10 [] p ns.length ns []) l1).andThen fun n l2 => .ok n (tk l2)) := fun l1 h1 => gt_then (ih.body _ _ _ _ h1 (sel_leaf' (by decide) (by decide) trivial trivial) (by simp [Node.kind]) (by simp [Node.kind]) (by simp [Node.kids])) fun n l2 hn h2 => gt_ok hn h2.tk
      exact gt_cond (fun _ => gt_then (gt_need hl.tk) fun t l1 _ h1 => ih.blkN _ _ _ _ h1) fun _ => gt_cond (fun _ => gt_then (gt_need hl) fun _ l1 _ h1 => hb l1 h1) fun _ => hb l hl
    · intro d k n l hl hn h7 h9 hr
      simp only [body]
      exact gt_cond (fun _ => ih.bodyN _ _ _ _ hl.tk hn h7 h9 hr) fun _ => ih.bodyL _ _ _ _ hl hn h7 h9 hr
    · intro d k n l hl hn h7 h9 hr
      simp only [bodyN]
      exact gt_cond (fun _ => ih.bodyN _ _ _ _ hl.tk (sel_addName hn) h7 h9 hr) fun _ => gt_then (gt_need hl) fun _ l1 _ h1 => ih.bodyL _ _ _ _ h1 hn h7 h9 hr
    · intro d k n l hl hn h7 h9 hr
      simp only [bodyL]
      refine gt_cond (fun _ => gt_ok hn hl) fun _ => gt_then (ih.stmt d l hl) fun kl l1 hkl h1 => gt_cond (fun hb => ih.bodyL _ _ _ _ h1.tk (sel_addKid hn hkl.1 h7 h9 hr) h7 h9 fun x hx => ?_) fun _ => ?_
      · rw [Bool.and_eq_true, Bool.not_eq_true'] at hb
        have hx : x ∈ n.kids ++ [kl.1] := hx
        rcases List.mem_append.1 hx with hx | hx
        · exact hr x hx
        · rw [List.mem_singleton.1 hx]; exact hkl.2 hb.2
      have h2 : TL (bif Nat.beq (kd l1) 14 then tk l1 else l1) := by
        cases Nat.beq (kd l1) 14
        · exact h1
        · exact h1.tk
      exact gt_cond (fun _ => gt_ok (sel_addKid hn hkl.1 h7 h9 hr) h2) fun _ => gt_syn _
    · intro d l hl
      simp only [stmt]
      refine gt_cond (fun _ => gt_then (ih.expr d _ hl.tk) fun e l1 he h1 => gt_ok ⟨sel_leaf (by decide) ⟨he, trivial⟩, fun h => by simp at h⟩ h1) fun _ => ?_
      intro x l' h
      obtain ⟨e, l1, h1, h2⟩ := andThen_ok h
      injection h2 with h2 h3
      subst h2 h3
      obtain ⟨h4, h5⟩ := ih.expr d l hl e l1 h1
      exact ⟨⟨h4, fun _ h11 => by have := okE_kind ((shape f).expr h1).1; rw [h11] at this; simp at this⟩, h5⟩

theorem unit_sel {s : List UInt8} {head : List Tok → Res Node} {n : Node} (hh : ∀ l, TL l → Gt (fun n => SelN n ∧ n.kind ≠ 7 ∧ n.kind ≠ 9 ∧ n.kids = []) (head l)) (h : unitS s head = .ok n) : SelN n := by
  unfold unitS at h
  cases hr : readS s with
  | error x => rw [hr] at h; simp at h
  | ok l =>
    rw [hr] at h
    simp only [] at h
    have hb : Gt SelN ((head l).andThen fun n l1 => body (fuelOf l) 0 0 n l1) := gt_then (hh l (readS_tok hr)) fun n l1 hn h1 => (selP _).body _ _ _ _ h1 hn.1 hn.2.1 hn.2.2.1 (by rw [hn.2.2.2]; simp)
    generalize (head l).andThen (fun n l1 => body (fuelOf l) 0 0 n l1) = r at h hb
    cases r with
    | out => simp at h
    | bad p e => simp at h
    | ok n' l' =>
      injection h with h
      subst h
      exact (hb _ _ rfl).1
theorem parse_sel {s : List UInt8} {n : Node} (h : parseS s = .ok n) : SelN n :=
  unit_sel (fun l hl => by
    intro n l' he
    injection he with h1 h2
    subst h1 h2
    exact ⟨⟨sel_leaf' (by decide) (by decide) trivial trivial, by simp [Node.kind], by simp [Node.kind], rfl⟩, hl⟩) h
theorem method_sel {s : List UInt8} {n : Node} (h : methodS s = .ok n) : SelN n := by
  refine unit_sel (fun l hl => ?_) h
  intro n l' hp
  obtain ⟨t, names, rfl, _⟩ := patS_msr hp
  refine ⟨⟨sel_leaf' (by decide) (by decide) trivial trivial, by simp [Node.kind], by simp [Node.kind], rfl⟩, ?_⟩
  -- words stay good
  have pl : ∀ f t ns l1, TL l1 → Gt (fun _ => True) (patL f t ns l1) := by
    intro f
    induction f with
    | zero => intros; simp only [patL]; exact gt_out
    | succ f ih =>
      intro t ns l1 h1
      simp only [patL]
      exact gt_cond (fun _ => gt_then (gt_need h1.tk) fun _ l2 _ h2 => ih _ _ _ h2) fun _ => gt_ok trivial h1
  have : Gt (fun _ => True) (patS l) := by
    unfold patS
    exact gt_cond (fun _ => gt_ok trivial hl.tk) fun _ => gt_cond (fun _ => gt_then (gt_need hl.tk) fun _ l1 _ h1 => gt_ok trivial h1) fun _ => gt_cond (fun _ => gt_then (gt_need hl.tk) fun _ l1 _ h1 => gt_then (pl _ _ _ _ h1) fun _ l2 _ h2 => gt_ok trivial h2) fun _ => gt_syn _
  exact (this _ _ hp).2
end Go.Vx
namespace Go.Vx

/-- Some step is such a one. -/
def hasI (us : List CU) (p : Ins → Bool) : Prop := ∃ x ∈ us, ∃ i ∈ x.ins, p i = true
theorem hasI_mod {us : List CU} {p : Ins → Bool} {u : Nat} {i : Ins} (h : hasI us p) : hasI (modU us u i) p := by
  induction us generalizing u with
  | nil => exact h
  | cons y us ih =>
    obtain ⟨x, hx, j, hj, hp⟩ := h
    rcases List.mem_cons.1 hx with rfl | hx
    · cases u with
      | zero => exact ⟨⟨x.args, x.names, x.ins ++ [i]⟩, by simp [modU], j, by simp [hj], hp⟩
      | succ u => exact ⟨x, by simp [modU], j, hj, hp⟩
    · cases u with
      | zero => exact ⟨x, by simp [modU, hx], j, hj, hp⟩
      | succ u =>
        obtain ⟨x', h1, j', h2, h3⟩ := ih (u := u) ⟨x, hx, j, hj, hp⟩
        exact ⟨x', by simp [modU, h1], j', h2, h3⟩
theorem hasI_new {us : List CU} {p : Ins → Bool} {u : Nat} {i : Ins} (hu : u < us.length) (hp : p i = true) : hasI (modU us u i) p := by
  induction us generalizing u with
  | nil => simp at hu
  | cons y us ih =>
    cases u with
    | zero => exact ⟨⟨y.args, y.names, y.ins ++ [i]⟩, by simp [modU], i, by simp, hp⟩
    | succ u =>
      obtain ⟨x', h1, j', h2, h3⟩ := ih (u := u) (by simpa using hu)
      exact ⟨x', by simp [modU, h1], j', h2, h3⟩
theorem hasI_app {us us' : List CU} {p : Ins → Bool} (h : hasI us p) : hasI (us ++ us') p := by
  obtain ⟨x, hx, r⟩ := h
  exact ⟨x, by simp [hx], r⟩

/-- How many blocks. -/
def nBi : List Ins → Nat
  | [] => 0
  | i :: l => (bif Nat.beq i.op 10 then 1 else 0) + nBi l
def nB : List CU → Nat
  | [] => 0
  | x :: l => nBi x.ins + nB l
theorem nBi_app (a b : List Ins) : nBi (a ++ b) = nBi a + nBi b := by
  induction a with
  | nil => simp [nBi]
  | cons x a ih => simp only [List.cons_append, nBi, ih]; omega
theorem nB_app (a b : List CU) : nB (a ++ b) = nB a + nB b := by
  induction a with
  | nil => simp [nB]
  | cons x a ih => simp only [List.cons_append, nB, ih]; omega
theorem nB_mod {us : List CU} {u : Nat} {i : Ins} (hu : u < us.length) : nB (modU us u i) = nB us + (bif Nat.beq i.op 10 then 1 else 0) := by
  induction us generalizing u with
  | nil => simp at hu
  | cons y us ih =>
    cases u with
    | zero => simp only [modU, nB, nBi_app, nBi]; omega
    | succ u =>
      have := ih (u := u) (by simpa using hu)
      simp only [modU, nB, this]; omega

/-- All that is asked of lists and steps. -/
structure InvO (m : MK) : Prop where
  lits : m.lits.Nodup
  names : m.names.Nodup
  sels : m.sels.Nodup
  ul : ∀ a, a < m.lits.length → hasI m.units (fun i => Nat.beq i.a a && Nat.beq i.op 0)
  un : ∀ a, a < m.names.length → hasI m.units (fun i => Nat.beq i.a a && Nat.beq i.op 5)
  us : ∀ a, a < m.sels.length → hasI m.units (fun i => Nat.beq i.a a && (Nat.beq i.op 8 || Nat.beq i.op 9))

theorem idxT_none {t : List UInt8} {l : List (List UInt8)} {i : Nat} (h : idxT t l i = none) : t ∉ l := by
  induction l generalizing i with
  | nil => simp
  | cons x l ih =>
    simp only [idxT] at h
    cases hb : x == t with
    | true => rw [hb] at h; simp at h
    | false =>
      rw [hb] at h
      have hx : x ≠ t := by simpa using hb
      simp [ih h, Ne.symm hx]
theorem idxT_some {t : List UInt8} {l : List (List UInt8)} {i k : Nat} (h : idxT t l i = some k) : k < i + l.length := by
  induction l generalizing i with
  | nil => simp [idxT] at h
  | cons x l ih =>
    simp only [idxT] at h
    cases hb : x == t with
    | true =>
      rw [hb] at h
      simp at h
      subst h
      simp
    | false =>
      rw [hb] at h
      have := ih h
      simp only [List.length_cons]
      omega
theorem once_law {l : List (List UInt8)} {t : List UInt8} (h : l.Nodup) : (onceS l t).1.Nodup ∧ (onceS l t).2 < (onceS l t).1.length ∧ ∀ a, a < (onceS l t).1.length → a < l.length ∨ a = (onceS l t).2 := by
  unfold onceS
  cases hix : idxT t l 0 with
  | some k =>
    have := idxT_some hix
    exact ⟨h, by simpa using this, fun a ha => .inl ha⟩
  | none =>
    have := idxT_none hix
    refine ⟨?_, by simp, fun a ha => ?_⟩
    · rw [List.nodup_append]
      refine ⟨h, by simp, fun x hx y hy => ?_⟩
      rw [List.mem_singleton.1 hy]
      exact fun e => this (e ▸ hx)
    · simp only [List.length_append, List.length_cons, List.length_nil] at ha
      simp only []
      omega

/-- One maker behind another one. -/
structure Gd (m r : MK) : Prop where
  units : m.units.length ≤ r.units.length
  inv : InvO m → InvO r
  blocks : r.units.length + nB m.units = m.units.length + nB r.units
theorem Gd.refl (m : MK) : Gd m m := ⟨Nat.le_refl _, fun h => h, rfl⟩
theorem Gd.trans {m r q : MK} (h : Gd m r) (h' : Gd r q) : Gd m q := ⟨Nat.le_trans h.units h'.units, fun x => h'.inv (h.inv x), by have := h.blocks; have := h'.blocks; omega⟩

theorem inv_add {m : MK} {u : Nat} {i : Ins} (h : InvO m) : InvO (addI m u i) := ⟨h.lits, h.names, h.sels, fun a ha => hasI_mod (h.ul a ha), fun a ha => hasI_mod (h.un a ha), fun a ha => hasI_mod (h.us a ha)⟩
theorem gd_add {m : MK} {u : Nat} (op a b : Nat) (hu : u < m.units.length) (ho : Nat.beq op 10 = false) : Gd m (addI m u ⟨op, a, b⟩) := by
  refine ⟨?_, inv_add, ?_⟩
  · show m.units.length ≤ (modU m.units u _).length
    rw [modU_len]; exact Nat.le_refl _
  · show (modU m.units u _).length + nB m.units = m.units.length + nB (modU m.units u _)
    rw [modU_len, nB_mod hu]
    simp only [ho, cond_false]
    omega
theorem gd_pop (m : MK) : Gd m (popU m) := ⟨Nat.le_refl _, fun h => ⟨h.lits, h.names, h.sels, h.ul, h.un, h.us⟩, rfl⟩
theorem blocks_add {m m2 : MK} {u : Nat} {i : Ins} (hm : m2.units = m.units) (hu : u < m.units.length) (ho : Nat.beq i.op 10 = false) : (addI m2 u i).units.length + nB m.units = m.units.length + nB (addI m2 u i).units := by
  show (modU m2.units u i).length + nB m.units = m.units.length + nB (modU m2.units u i)
  rw [hm, modU_len, nB_mod hu, ho]
  simp only [cond_false]
  omega
theorem units_add {m m2 : MK} {u : Nat} {i : Ins} (hm : m2.units = m.units) : m.units.length ≤ (addI m2 u i).units.length := by
  show m.units.length ≤ (modU m2.units u i).length
  rw [modU_len, hm]
  exact Nat.le_refl _
theorem gd_lit {m : MK} {u : Nat} (t : List UInt8) (hu : u < m.units.length) : Gd m (addI { m with lits := (onceS m.lits t).1 } u ⟨0, (onceS m.lits t).2, 0⟩) := by
  refine ⟨units_add rfl, fun h => ?_, blocks_add (m2 := { m with lits := (onceS m.lits t).1 }) rfl hu rfl⟩
  obtain ⟨h1, h2, h3⟩ := once_law (t := t) h.lits
  refine ⟨h1, h.names, h.sels, fun a ha => ?_, fun a ha => hasI_mod (h.un a ha), fun a ha => hasI_mod (h.us a ha)⟩
  rcases h3 a ha with h4 | h4
  · exact hasI_mod (h.ul a h4)
  · refine hasI_new hu ?_
    rw [h4]
    simp
theorem gd_nam {m : MK} {u : Nat} (t : List UInt8) (hu : u < m.units.length) : Gd m (addI { m with names := (onceS m.names t).1 } u ⟨5, (onceS m.names t).2, 0⟩) := by
  refine ⟨units_add rfl, fun h => ?_, blocks_add (m2 := { m with names := (onceS m.names t).1 }) rfl hu rfl⟩
  obtain ⟨h1, h2, h3⟩ := once_law (t := t) h.names
  refine ⟨h.lits, h1, h.sels, fun a ha => hasI_mod (h.ul a ha), fun a ha => ?_, fun a ha => hasI_mod (h.us a ha)⟩
  rcases h3 a ha with h4 | h4
  · exact hasI_mod (h.un a h4)
  · refine hasI_new hu ?_
    rw [h4]
    simp
theorem gd_send {m : MK} {u : Nat} (sup : Bool) (t : List UInt8) (n : Nat) (hu : u < m.units.length) : Gd m (sendC u sup t n m) := by
  refine ⟨units_add rfl, fun h => ?_, blocks_add (m2 := { m with sels := (onceS m.sels t).1 }) rfl hu (by cases sup <;> rfl)⟩
  obtain ⟨h1, h2, h3⟩ := once_law (t := t) h.sels
  refine ⟨h.lits, h.names, h1, fun a ha => hasI_mod (h.ul a ha), fun a ha => hasI_mod (h.un a ha), fun a ha => ?_⟩
  rcases h3 a ha with h4 | h4
  · exact hasI_mod (h.us a h4)
  · refine hasI_new hu ?_
    rw [h4]
    cases sup <;> simp
theorem gd_name {m : MK} {u : Nat} (hu : u < m.units.length) : Gd m (nameC u m) := by
  unfold nameC
  simp only []
  have h0 := gd_pop m
  have hu' : u < (popU m).units.length := hu
  cases (useH m).kind == 2
  · cases (useH m).kind == 3
    · cases (useH m).kind == 4
      · cases (useH m).kind == 5
        · exact h0.trans (gd_add _ _ _ hu' rfl)
        · exact h0.trans (gd_nam _ hu')
      · exact h0.trans (gd_add _ _ _ hu' rfl)
    · exact h0.trans (gd_add _ _ _ hu' rfl)
  · exact h0.trans (gd_add _ _ _ hu' rfl)

def GdP (n : Node) : Prop := ∀ u m, u < m.units.length → Gd m (partC n u m)
def GdQ (n : Node) : Prop := GdP n ∧ (∀ u sup m, u < m.units.length → Gd m (msgC n u sup m)) ∧ (∀ u m, u < m.units.length → Gd m (retC n u m))

theorem gd_parts {ks : List Node} (ih : ∀ x ∈ ks, GdP x) : ∀ u m, u < m.units.length → Gd m (partsC ks u m) := by
  induction ks with
  | nil => intro u m _; exact Gd.refl m
  | cons k ks ihk =>
    intro u m hu
    simp only [partsC]
    have h := ih k (by simp) u m hu
    exact h.trans (ihk (fun x hx => ih x (by simp [hx])) u _ (Nat.lt_of_lt_of_le hu h.units))
theorem gd_head {ks : List Node} (ih : ∀ x ∈ ks, GdP x) (u : Nat) (m : MK) (hu : u < m.units.length) : Gd m (headC ks u m) := by
  cases ks with
  | nil => exact Gd.refl m
  | cons k ks =>
    simp only [headC]
    exact ih k (by simp) u m hu
theorem gd_casc {ks : List Node} (ih : ∀ x ∈ ks, GdQ x) : ∀ u sup m, u < m.units.length → Gd m (cascC ks u sup m) := by
  induction ks with
  | nil => intro u sup m _; exact Gd.refl m
  | cons k ks ihk =>
    intro u sup m hu
    simp only [cascC]
    cases ks.isEmpty
    · simp only [cond_false]
      have h1 := gd_add 11 0 0 hu rfl
      have h2 := (ih k (by simp)).2.1 u sup _ (Nat.lt_of_lt_of_le hu h1.units)
      have h12 := h1.trans h2
      have h3 := gd_add 12 0 0 (Nat.lt_of_lt_of_le hu h12.units) rfl
      have h13 := h12.trans h3
      exact h13.trans (ihk (fun x hx => ih x (by simp [hx])) u sup _ (Nat.lt_of_lt_of_le hu h13.units))
    · exact (ih k (by simp)).2.1 u sup m hu
theorem gd_stmts {ks : List Node} (ih : ∀ x ∈ ks, GdQ x) : ∀ u first m, u < m.units.length → Gd m (stmtsC ks u first m).1 := by
  induction ks with
  | nil => intro u first m _; exact Gd.refl m
  | cons k ks ihk =>
    intro u first m hu
    have h0 : Gd m (bif first then m else addI m u ⟨12, 0, 0⟩) := by
      cases first
      · exact gd_add 12 0 0 hu rfl
      · exact Gd.refl m
    simp only [stmtsC]
    generalize (bif first then m else addI m u ⟨12, 0, 0⟩) = m1 at h0
    have hu1 := Nat.lt_of_lt_of_le hu h0.units
    cases Nat.beq k.kind 11
    · simp only [cond_false]
      have h1 := h0.trans ((ih k (by simp)).1 u m1 hu1)
      exact h1.trans (ihk (fun x hx => ih x (by simp [hx])) u false _ (Nat.lt_of_lt_of_le hu h1.units))
    · simp only [cond_true]
      have h1 := h0.trans ((ih k (by simp)).2.2 u m1 hu1)
      exact h1.trans (gd_add 14 0 0 (Nat.lt_of_lt_of_le hu h1.units) rfl)

/-- A unit more, and as many blocks. -/
structure Gu (m r : MK) : Prop where
  units : m.units.length + 1 ≤ r.units.length
  inv : InvO m → InvO r
  blocks : r.units.length + nB m.units = m.units.length + nB r.units + 1

theorem gu_unitOf {k n names kids : Nat} {t : List UInt8} {st : Nat → MK → MK × Bool} (h : ∀ u m, u < m.units.length → Gd m (st u m).1) (m : MK) : Gu m (unitOf k t n names kids st m) := by
  unfold unitOf
  simp only []
  have hp : Gu m { m with units := m.units ++ [⟨n, names, []⟩] } := by
    refine ⟨by simp, fun hi => ⟨hi.lits, hi.names, hi.sels, fun a ha => hasI_app (hi.ul a ha), fun a ha => hasI_app (hi.un a ha), fun a ha => hasI_app (hi.us a ha)⟩, ?_⟩
    simp only [List.length_append, List.length_cons, List.length_nil, nB_app, nB, nBi]
    omega
  have hu : m.units.length < ({ m with units := m.units ++ [⟨n, names, []⟩] } : MK).units.length := by simp
  have h1 := h m.units.length { m with units := m.units ++ [⟨n, names, []⟩] } hu
  generalize ({ m with units := m.units ++ [⟨n, names, []⟩] } : MK) = m1 at hp hu h1
  have hu1 := Nat.lt_of_lt_of_le hu h1.units
  generalize st m.units.length m1 = r at h1 hu1
  have fin : ∀ q, Gd r.1 q → Gu m q := fun q hq => ⟨by have := hp.units; have := h1.units; have := hq.units; omega, fun x => hq.inv (h1.inv (hp.inv x)), by have := hp.blocks; have := h1.blocks; have := hq.blocks; omega⟩
  have hc : ∀ (q : Bool), Gd r.1 (bif q then r.1 else addI r.1 m.units.length ⟨12, 0, 0⟩) := by
    intro q
    cases q
    · exact gd_add 12 0 0 hu1 rfl
    · exact Gd.refl _
  have hc' : ∀ (q : Bool), Gd r.1 (bif q then addI r.1 m.units.length ⟨7, 0, 0⟩ else r.1) := by
    intro q
    cases q
    · exact Gd.refl _
    · exact gd_add 7 0 0 hu1 rfl
  cases r.2
  · simp only [cond_false]
    cases Nat.beq k 12 && !t.isEmpty
    · simp only [cond_false]
      have h2 := hc' (Nat.beq kids 0)
      exact fin _ (h2.trans (gd_add 13 0 0 (Nat.lt_of_lt_of_le hu1 h2.units) rfl))
    · simp only [cond_true]
      have h2 := hc (Nat.beq kids 0)
      have h3 := h2.trans (gd_add 6 0 0 (Nat.lt_of_lt_of_le hu1 h2.units) rfl)
      exact fin _ (h3.trans (gd_add 14 0 0 (Nat.lt_of_lt_of_le hu1 h3.units) rfl))
  · simp only [cond_true]
    exact fin _ (Gd.refl _)

theorem gd_part : ∀ n, GdQ n := by
  refine Node.ind fun k t p n ns ks ih => ?_
  have ihP : ∀ x ∈ ks, GdP x := fun x hx => (ih x hx).1
  refine ⟨fun u m hu => ?_, fun u sup m hu => ?_, fun u m hu => ?_⟩
  · simp only [partC]
    rcases hb : (Nat.beq k 1 || (Nat.beq k 2 || (Nat.beq k 3 || Nat.beq k 4))) with _ | _
    · simp only [cond_false]
      cases h5 : Nat.beq k 5
      · simp only [cond_false]
        cases h6 : Nat.beq k 6
        · simp only [cond_false]
          cases h7 : Nat.beq k 7
          · simp only [cond_false]
            cases h8 : Nat.beq k 8
            · simp only [cond_false]
              cases h10 : Nat.beq k 10
              · simp only [cond_false]
                exact Gd.refl m
              · simp only [cond_true]
                have hg : Gu (addI m u ⟨10, m.units.length, 0⟩) (unitOf k t n ns.length ks.length (fun u' m' => stmtsC ks u' true m') (addI m u ⟨10, m.units.length, 0⟩)) := gu_unitOf (fun u m hu => gd_stmts ih u true m hu) _
                generalize unitOf k t n ns.length ks.length (fun u' m' => stmtsC ks u' true m') (addI m u ⟨10, m.units.length, 0⟩) = q at hg ⊢
                have hl : (addI m u ⟨10, m.units.length, 0⟩).units.length = m.units.length := modU_len _ _ _
                have hnb : nB (addI m u ⟨10, m.units.length, 0⟩).units = nB m.units + 1 := nB_mod hu
                have g1 := hg.units
                have g2 := hg.blocks
                exact ⟨by omega, fun x => hg.inv (inv_add x), by omega⟩
            · simp only [cond_true]
              cases ks with
              | nil => exact Gd.refl m
              | cons r ms =>
                simp only [cascT]
                have h := ihP r (by simp) u m hu
                exact h.trans (gd_casc (fun x hx => ih x (by simp [hx])) u _ _ (Nat.lt_of_lt_of_le hu h.units))
          · simp only [cond_true]
            have h := gd_parts ihP u m hu
            exact h.trans (gd_send _ _ _ (Nat.lt_of_lt_of_le hu h.units))
        · simp only [cond_true]
          have h := (gd_pop m).trans (gd_head ihP u (popU m) hu)
          cases (useH m).kind == 3
          · exact h.trans (gd_add 4 _ _ (Nat.lt_of_lt_of_le hu h.units) rfl)
          · exact h.trans (gd_add 2 _ _ (Nat.lt_of_lt_of_le hu h.units) rfl)
      · simp only [cond_true]
        exact gd_name hu
    · simp only [cond_true]
      exact gd_lit _ hu
  · simp only [msgC]
    have h := gd_parts ihP u m hu
    exact h.trans (gd_send _ _ _ (Nat.lt_of_lt_of_le hu h.units))
  · simp only [retC]
    exact gd_head ihP u m hu

/-- What is claimed of the steps of a source. -/
theorem once_holds {slots : List (List UInt8)} {s : List UInt8} {sel : List UInt8} {m : MK} (h : compileS slots s = .ok (sel, m)) : InvO m ∧ m.units.length = nB m.units + 1 := by
  unfold compileS codeS at h
  cases hp : parseS s with
  | error x => rw [hp] at h; simp at h
  | ok n =>
    rw [hp] at h
    simp only [] at h
    cases hm : makeS slots n with
    | error p => rw [hm] at h; simp at h
    | ok m' =>
      rw [hm] at h
      injection h with h
      injection h with _ h
      subst h
      unfold makeS at hm
      cases hr : resolveS slots n with
      | error p => rw [hr] at hm; simp at hm
      | ok l =>
        rw [hr] at hm
        injection hm with hm
        subst hm
        obtain ⟨k, t, p, nn, ns, ks⟩ := n
        have hg := gu_unitOf (k := k) (t := t) (n := nn) (names := ns.length) (kids := ks.length) (fun u m hu => gd_stmts (ks := ks) (fun x _ => gd_part x) u true m hu) ⟨[], [], [], [], l⟩
        refine ⟨hg.inv ⟨by simp, by simp, by simp, by simp, by simp, by simp⟩, ?_⟩
        have := hg.blocks
        simp only [List.length_nil, nB] at this
        show (unitOf k t nn ns.length ks.length (fun u' m' => stmtsC ks u' true m') ⟨[], [], [], [], l⟩).units.length = nB (unitOf k t nn ns.length ks.length (fun u' m' => stmtsC ks u' true m') ⟨[], [], [], [], l⟩).units + 1
        have h2 : (unitOf k t nn ns.length ks.length (fun u' m' => stmtsC ks u' true m') ⟨[], [], [], [], l⟩).units.length + 0 = 0 + nB (unitOf k t nn ns.length ks.length (fun u' m' => stmtsC ks u' true m') ⟨[], [], [], [], l⟩).units + 1 := this
        omega

/-! ### Fixed sources -/
def src1 : List UInt8 := [51, 32, 102, 111, 111, 59, 32, 43, 32, 52]
def src2 : List UInt8 := [97, 32, 58, 61, 32, 51]
def mk1 : MK := ⟨[⟨0, 0, [⟨0, 0, 0⟩, ⟨11, 0, 0⟩, ⟨8, 0, 0⟩, ⟨12, 0, 0⟩, ⟨0, 1, 0⟩, ⟨8, 1, 1⟩, ⟨13, 0, 0⟩]⟩], [[51], [52]], [], [[102, 111, 111], [43]], []⟩
theorem known1 : compileS [] src1 = .ok ([], mk1) := by kernel_rfl
theorem known2 : compileS [] src2 = .error (0, 21) := by kernel_rfl
end Go.Vx
