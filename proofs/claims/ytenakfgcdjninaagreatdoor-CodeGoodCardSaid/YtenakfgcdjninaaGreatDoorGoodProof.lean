/- CodeGood: whatever is made of a source, to be run or of a method, checks (by the program's own check and by the reference's), and has a unit; nothing is made of one that is refused: the law returns true, and its arguments read as they did. Conditions: the row's own (its two listed tables hold what they are laid to hold). -/
import Derived.Test.YtenakfgcdjninaaGreatDoorVm7
import Derived.Test.YtenakfgcdjninaaGreatDoorRows
import Derived.Test.YtenakfgcdjninaaGreatDoorTie
import Derived.Test.YtenakfgcdjninaaGreatDoorCards
import Derived.ProofKit
import Derived.Lay
import Derived.SevenTiedAt
namespace Go.Proofs.YtenakfgcdjninaaGreatDoor
open Go.ChangeShapes Go.WideShapes Go.ChangeAt Go.RowKit
open Go Go.Proofs

theorem own : ownKnob Tryz.prog.godebug = none := by kernel_rfl
theorem laidOut : laidOutB Tryz.prog = true := by kernel_rfl
theorem enter5 : Vx.Enter Tryz.prog 5 := ⟨Tryz.f5, Tryz.func5, by kernel_rfl, by kernel_rfl⟩

set_option maxRecDepth 100000 in
theorem good_lifted (os : Os) (started : os.Started) (H : Type) (enc : TypeId × Value → H) :
    ReturnsInHanded {} Tryz.checked os 5 .any (fun w args => (Rows.codeGoodSpec.pre enc Tryz.prog Tryz.f5 [] false w args ∧ laidMetH Tryz.prog Rows.codeGoodRow.laid w) ∧ sizedMet enc Tryz.prog Tryz.f5 (OpenSpec.ofChange Rows.codeGoodSpec) false w args)
      (Rows.codeGoodSpec.post enc Tryz.prog Tryz.f5 false true false false) := by
  refine returnsInHanded_of_change_and (C := Tryz.checked) (X := fun w _ => laidMetH Tryz.prog Rows.codeGoodRow.laid w) (fun _ _ _ hh h => h.of_heap hh) own started (by kernel_rfl) Tryz.func5
    (ChangeSpec.witness_shaped (enc := enc) (C := Tryz.checked) (os := os) (X := fun w _ => laidMetH Tryz.prog Rows.codeGoodRow.laid w) false (World.laidAll Tryz.prog os Rows.codeGoodRow.laid) #[.string ⟨#[]⟩, .bool false, .slice none 0 0] 8 (World.laidAll_os _ _ _)
      (World.shaped_of_ZipB (by kernel_rfl) (by kernel_rfl)) (by kernel_rfl) (by kernel_rfl) (by kernel_rfl)
      (by rw [MakeChecks.laidMetH_plain _ _ _ (by kernel_rfl)]; exact laidMet_laidAll _ (by kernel_rfl) (by kernel_rfl))) ?_
  intro W base args ds gs before hval0 hW _ hwt hL _
  have hval : ∀ (j : Nat) t v, Tryz.f5.params[j]? = some t → args[j]? = some v → Value.okWide Tryz.prog W .any base t v := hval0
  have hW' := hW
  obtain ⟨p, q, hA0, hV, rfl, _, _⟩ := hW
  have hA : DataW.TrodAll enc Tryz.prog W 0 (fun _ => true) true Tryz.f5.params.toList args.toList ds p := hA0
  rw [Tryz.params5] at hA hval
  obtain ⟨v0, vb, v1, d0, db, d1, p0, pb, p1, rfl, rfl, rfl, h0, hb, h1⟩ := trodAll_three hA
  obtain ⟨rfl, rfl⟩ := trodVars_none hV
  have h0k := h0
  have h1k := h1
  have hbk := hb
  have hwt' : ∀ x ∈ DataW.weights Tryz.prog 22 d1, x ≤ reachBytes := by
    intro x hx
    have := List.all_eq_true.1 hwt x (by
      show x ∈ DataW.weightsEach Tryz.prog ((Tryz.f5.params.toList) ++ _) _
      rw [Tryz.params5]
      simp [DataW.weightsEach, hx])
    simpa using this
  obtain ⟨s, rfl, rfl, rfl, hs⟩ := Go.ChangeMaps.open_string Tryz.underlying9 (hval 0 9 v0 rfl rfl) h0
  obtain ⟨mb, rfl, rfl, rfl⟩ := open_bool Tryz.underlying4 (hval 1 4 vb rfl rfl) hb
  obtain ⟨l, hl, hln⟩ := Vx.arg_strs Tryz.underlying22 Tryz.underlying9 (by kernel_rfl) (by kernel_rfl) hwt' (hval 2 22 v1 rfl rfl) h1
  simp only [List.append_nil] at hW'
  have hlt := hW'.lt
  rw [Vx.strV] at hW' h0k ⊢
  refine (Vx.Tr.calls enter5 (Vx.c_CodeGood (R := fun e W' => e = .returned (.bool true) ∧ Below W.heap.size W W') (by simpa [maxLen] using hs) hl hln (Vx.sat_all W) (fun g' w' hg hS => ⟨rfl, Vx.sat_below hg hS⟩))).mono fun e W' ⟨he, hb2⟩ => ?_
  subst he
  refine ⟨_, rfl, _, _, _, _, _, [], hW', trodAll_mk1 (shut_bool Tryz.underlying4 _), trodAll_mk3 (Below.trod laidOut (by kernel_rfl) (of_decide_eq_true (by kernel_rfl)) h0k hb2 (fun x hx => by simp at hx)) (Below.trod laidOut (by kernel_rfl) (of_decide_eq_true (by kernel_rfl)) hbk hb2 (fun x hx => by simp at hx)) (Below.trod laidOut (by kernel_rfl) (of_decide_eq_true (by kernel_rfl)) h1k hb2 (fun x hx => hlt x (by simp [hx]))), rfl, hb2.frame _, fun h => by cases h⟩

theorem good_row_holds : Rows.CodeGoodSaid :=
  OpenClaim.holds_of_wide 5 Tryz.f5 rfl rfl rfl rfl rfl rfl rfl ⟨rfl, rfl, rfl, rfl, rfl⟩ rfl rfl rfl rfl rfl (by kernel_rfl) Tryz.func5 (by kernel_rfl)
    (of_decide_eq_true (by kernel_rfl)) (by unfold Func.isWrapper; first | (rw [if_pos (by decide +kernel)]; kernel_rfl) | (rw [if_neg (by decide +kernel)]; exact ⟨rfl, rfl⟩))
    (fun os started H enc _ => good_lifted os started H enc)

theorem good_holds : Rows.CodeGoodCardSaid :=
  Claim7.holds_tied_plain_at .later [] [.data, .pinned] true (true, "e624c3d08349cdf6aace5d88c9c37bf3d673a2bd25c02804711fe679315cd96b") true good_row_holds (fun _ h => by cases h) (by kernel_rfl) (fun _ h => by cases h) codeGood_row_tie rfl ⟨rfl, rfl⟩ (by kernel_rfl) rfl
    (fun f fn hf hfn => by
      obtain rfl : f = 5 := Option.some.inj ((show Tryz.prog.funcNamed "lapidary/lapidarylaw10.CodeGood" = some 5 by kernel_rfl).symm.trans hf) |>.symm
      obtain rfl : fn = Tryz.f5 := (Option.some.inj (Tryz.func5.symm.trans hfn)).symm
      exact ⟨by kernel_rfl, fun j t ht => by
        rw [Tryz.params5] at ht
        have hm : t ∈ [9, 4, 22] := by simpa using Array.mem_of_getElem? ht
        have hall : ([9, 4, 22].all fun u => !Tryz.prog.wantsStandIn u) = true := by kernel_rfl
        exact (show Tryz.prog.wantsStandIn t = false by simpa using List.all_eq_true.1 hall t hm)⟩)
    (by kernel_rfl)
#print axioms good_holds
end Go.Proofs.YtenakfgcdjninaaGreatDoor
