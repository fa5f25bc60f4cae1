/-
  PROVED: 'laws.FnExactWitnessOf' returns true for every input, and each argument reads behind the call as it read before.
  No condition: the given statement, nothing ahead of it.
-/
import Derived.Test.YtgkalkgplcdnkaaGreatW1B05
import Derived.Test.YtgkalkgplcdnkaaGreatF01
set_option linter.unusedVariables false
set_option linter.unusedSimpArgs false
namespace Go.Proofs.YtgkalkgplcdnkaaGreat.fnExactWitnessOf
open Go.AL Go.ChangeShapes Go.WideShapes Go.ChangeAt Go.RowKit
set_option linter.unusedVariables false
theorem own : ownKnob Tryz.prog.godebug = none := by kernel_rfl
set_option maxRecDepth 100000 in
theorem lifted (os : Os) (started : os.Started) (H : Type) (enc : TypeId × Value → H) :
    ReturnsInHanded {} Tryz.checked os 6 .any (Rows.fnExactWitnessOfSpec.pre6 enc Tryz.prog Tryz.f6 Rows.fnExactWitnessOfRow.domain false) (Rows.fnExactWitnessOfSpec.post enc Tryz.prog Tryz.f6 false true false false) := by
  refine returnsInHanded_of_change (C := Tryz.checked) own started (by kernel_rfl) Tryz.func6
    (ChangeSpec.witness6 (enc := enc) (C := Tryz.checked) false ⟨#[], #[.agg #[.slice none 0 0, .slice none 0 0], .agg #[.int .i64 0, .int .i64 0, .int .i64 0]], []⟩ 8 (by kernel_rfl) (by kernel_rfl) (by kernel_rfl) (by kernel_rfl)) ?_
  intro W base args ds gs before hval0 hW hcnd _
  have hval : ∀ (j : Nat) t v, Tryz.f6.params[j]? = some t → args[j]? = some v → Value.okWide Tryz.prog W .any base t v := hval0
  have hW' := hW
  obtain ⟨p, q, hA0, hV, rfl, hfz, hnd⟩ := hW
  have hA : DataW.TrodAll enc Tryz.prog W 0 (fun _ => true) true Tryz.f6.params.toList args.toList ds p := hA0
  rw [Tryz.params6] at hA hval
  obtain ⟨v0, vs0, d0, ds0, p0, q0, hargs, rfl, rfl, h0, r0⟩ := trodAll_cons hA
  obtain ⟨v1, vs1, d1, ds1, p1, q1, rfl, rfl, rfl, h1, r1⟩ := trodAll_cons r0
  obtain ⟨rfl, rfl, rfl⟩ := trodAll_nil r1
  obtain rfl : args = #[v0, v1] := by cases args; simp_all
  obtain ⟨rfl, rfl⟩ := trodVars_none hV
  obtain ⟨pr, hl, hln, hb⟩ := GM (hval 0 25 v0 rfl rfl) h0
  obtain ⟨is, hm⟩ := J8 (hval 1 44 v1 rfl rfl) h1
  clear hA0 hval0
  simp only [List.append_nil] at hW'
  have hlt0 : ∀ x ∈ p0, x.block < W.heap.size := fun x hx => by simpa using hW'.lt x (by simp [hx])
  have hlt1 : ∀ x ∈ p1, x.block < W.heap.size := fun x hx => by simpa using hW'.lt x (by simp [hx])
  refine (uL (mC pr is hl hln) (vs := [v0, v1]) (by simp only [RdV]; exact ⟨_, _, rfl, hb, _, _, rfl, hm, rfl⟩)).mono fun e W' ⟨he, hg⟩ => ?_
  subst he
  have hs0 : ∀ sp : Nat → Bool, (∀ x ∈ p0, sp x.block = true) → DataW.Trod enc Tryz.prog W' 0 sp true 25 v0 d0 p0 := fun sp hsp =>
    WideElems.Trod_stays Kt (by kernel_rfl) (of_decide_eq_true (by kernel_rfl)) h0 (fun x hx => hg.same (hlt0 x hx)) hsp
  have hs1 : ∀ sp : Nat → Bool, (∀ x ∈ p1, sp x.block = true) → DataW.Trod enc Tryz.prog W' 0 sp true 44 v1 d1 p1 := fun sp hsp =>
    WideElems.Trod_stays Kt (by kernel_rfl) (of_decide_eq_true (by kernel_rfl)) h1 (fun x hx => hg.same (hlt1 x hx)) hsp
  refine ⟨_, rfl, ?_⟩
  refine ⟨_, _, _, [], p0 ++ p1, [], hW', trodAll_cons_mk (shut_bool Tryz.underlying4 _) trodAll_mk0, trodAll_mk2 (hs0 _ (fun x hx => by simpa using hlt0 x hx)) (hs1 _ (fun x hx => by simpa using hlt1 x hx)), rfl, hg.frame _, fun h => by cases h⟩
theorem jg1 : (Rows.fnExactWitnessOfRow.inPlace == Tryz.pinned.checked.prog.inPlace 6) = true := by kernel_rfl
theorem jg2 : (Rows.fnExactWitnessOfRow.unfollowed == Tryz.pinned.checked.prog.unfollowed 6) = true := by kernel_rfl
theorem jg3 : (Rows.fnExactWitnessOfRow.recurses == Tryz.pinned.checked.prog.recurses 6) = true := by kernel_rfl
theorem jg4 : (Rows.fnExactWitnessOfRow.named == Tryz.pinned.checked.prog.varsNamed 6) = true := by kernel_rfl
theorem jg5 : joinedFacts Tryz.pinned.checked.prog 6 Tryz.f6 Rows.fnExactWitnessOfSpec Rows.fnExactWitnessOfRow = true :=
  jf_of jf1 jf2 jf3 jf4 jf5 jf6 jf7 jf8 jf9 jg1 jg2 jg3 jg4 (by kernel_rfl) (by kernel_rfl) (by kernel_rfl) rfl rfl (by kernel_rfl) (by kernel_rfl) (by kernel_rfl) (by kernel_rfl) (by kernel_rfl) (by kernel_rfl) (by kernel_rfl) (by kernel_rfl) (by kernel_rfl) rfl (by kernel_rfl) (by kernel_rfl) (by kernel_rfl) (by kernel_rfl)
theorem over : Rows.fnExactWitnessOfRow.holds Tryz.pinned (OpenSpec.ofChange Rows.fnExactWitnessOfSpec) :=
  OpenClaim.holds_of_wide 6 Tryz.f6 rfl rfl rfl rfl rfl rfl rfl ⟨rfl, rfl, rfl, rfl, rfl⟩ rfl rfl rfl rfl rfl (by kernel_rfl) Tryz.func6 jg5
    (of_decide_eq_true (by kernel_rfl)) (by unfold Func.isWrapper; (rw [if_neg (by decide +kernel)]; exact ⟨rfl, rfl⟩))
    (fun os started H enc _ => lifted os started H enc)
theorem proved : Rows.FnExactWitnessOfSaid :=
  over
#print axioms proved
end Go.Proofs.YtgkalkgplcdnkaaGreat.fnExactWitnessOf
