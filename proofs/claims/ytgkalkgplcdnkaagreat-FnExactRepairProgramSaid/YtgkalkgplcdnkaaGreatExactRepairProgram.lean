/-
  PROVED: 'laws.FnExactRepairProgram' returns true for every input, and each argument reads behind the call as it read before.
  No condition: the given statement, nothing ahead of it.
-/
import Derived.Test.YtgkalkgplcdnkaaGreatW4B05
import Derived.Test.YtgkalkgplcdnkaaGreatF01
set_option linter.unusedVariables false
set_option linter.unusedSimpArgs false
namespace Go.Proofs.YtgkalkgplcdnkaaGreat.fnExactRepairProgram
open Go.AL Go.ChangeShapes Go.WideShapes Go.ChangeAt Go.RowKit
set_option linter.unusedVariables false
theorem own : ownKnob Tryz.prog.godebug = none := by kernel_rfl
set_option maxRecDepth 100000 in
theorem lifted (os : Os) (started : os.Started) (H : Type) (enc : TypeId × Value → H) :
    ReturnsInHanded {} Tryz.checked os 4 .any (Rows.fnExactRepairProgramSpec.pre6 enc Tryz.prog Tryz.f4 Rows.fnExactRepairProgramRow.domain false) (Rows.fnExactRepairProgramSpec.post enc Tryz.prog Tryz.f4 false true false false) := by
  refine returnsInHanded_of_change (C := Tryz.checked) own started (by kernel_rfl) Tryz.func4
    (ChangeSpec.witness6 (enc := enc) (C := Tryz.checked) false ⟨#[], #[.agg #[.slice none 0 0, .slice none 0 0]], []⟩ 8 (by kernel_rfl) (by kernel_rfl) (by kernel_rfl) (by kernel_rfl)) ?_
  intro W base args ds gs before hval0 hW hcnd _
  have hval : ∀ (j : Nat) t v, Tryz.f4.params[j]? = some t → args[j]? = some v → Value.okWide Tryz.prog W .any base t v := hval0
  have hW' := hW
  obtain ⟨p, q, hA0, hV, rfl, hfz, hnd⟩ := hW
  have hA : DataW.TrodAll enc Tryz.prog W 0 (fun _ => true) true Tryz.f4.params.toList args.toList ds p := hA0
  rw [Tryz.params4] at hA hval
  obtain ⟨v0, vs0, d0, ds0, p0, q0, hargs, rfl, rfl, h0, r0⟩ := trodAll_cons hA
  obtain ⟨rfl, rfl, rfl⟩ := trodAll_nil r0
  obtain rfl : args = #[v0] := by cases args; simp_all
  obtain ⟨rfl, rfl⟩ := trodVars_none hV
  obtain ⟨pr, hl, hln, hb⟩ := HF (hval 0 25 v0 rfl rfl) h0
  clear hA0 hval0
  simp only [List.append_nil] at hW'
  have hlt0 : ∀ x ∈ p0, x.block < W.heap.size := fun x hx => by simpa using hW'.lt x (by simp [hx])
  refine (vC (jS pr hl hln) (vs := [v0]) (by simp only [RdV]; exact ⟨_, _, rfl, hb, rfl⟩)).mono fun e W' ⟨he, hg⟩ => ?_
  subst he
  have hs0 : ∀ sp : Nat → Bool, (∀ x ∈ p0, sp x.block = true) → DataW.Trod enc Tryz.prog W' 0 sp true 25 v0 d0 p0 := fun sp hsp =>
    WideElems.Trod_stays Kr (by kernel_rfl) (of_decide_eq_true (by kernel_rfl)) h0 (fun x hx => hg.same (hlt0 x hx)) hsp
  refine ⟨_, rfl, ?_⟩
  refine ⟨_, _, _, [], p0, [], hW', trodAll_cons_mk (shut_bool Tryz.underlying4 _) trodAll_mk0, trodAll_mk1 (hs0 _ (fun x hx => by simpa using hlt0 x hx)), rfl, hg.frame _, fun h => by cases h⟩
theorem jg1 : (Rows.fnExactRepairProgramRow.inPlace == Tryz.pinned.checked.prog.inPlace 4) = true := by kernel_rfl
theorem jg2 : (Rows.fnExactRepairProgramRow.unfollowed == Tryz.pinned.checked.prog.unfollowed 4) = true := by kernel_rfl
theorem jg3 : (Rows.fnExactRepairProgramRow.recurses == Tryz.pinned.checked.prog.recurses 4) = true := by kernel_rfl
theorem jg4 : (Rows.fnExactRepairProgramRow.named == Tryz.pinned.checked.prog.varsNamed 4) = true := by kernel_rfl
theorem jg5 : joinedFacts Tryz.pinned.checked.prog 4 Tryz.f4 Rows.fnExactRepairProgramSpec Rows.fnExactRepairProgramRow = true :=
  jf_of jf1 jf2 jf3 jf4 jf5 jf6 jf7 jf8 jf9 jg1 jg2 jg3 jg4 (by kernel_rfl) (by kernel_rfl) (by kernel_rfl) rfl rfl (by kernel_rfl) (by kernel_rfl) (by kernel_rfl) (by kernel_rfl) (by kernel_rfl) (by kernel_rfl) (by kernel_rfl) (by kernel_rfl) (by kernel_rfl) rfl (by kernel_rfl) (by kernel_rfl) (by kernel_rfl) (by kernel_rfl)
theorem over : Rows.fnExactRepairProgramRow.holds Tryz.pinned (OpenSpec.ofChange Rows.fnExactRepairProgramSpec) :=
  OpenClaim.holds_of_wide 4 Tryz.f4 rfl rfl rfl rfl rfl rfl rfl ⟨rfl, rfl, rfl, rfl, rfl⟩ rfl rfl rfl rfl rfl (by kernel_rfl) Tryz.func4 jg5
    (of_decide_eq_true (by kernel_rfl)) (by unfold Func.isWrapper; (rw [if_neg (by decide +kernel)]; exact ⟨rfl, rfl⟩))
    (fun os started H enc _ => lifted os started H enc)
theorem proved : Rows.FnExactRepairProgramSaid :=
  over
#print axioms proved
end Go.Proofs.YtgkalkgplcdnkaaGreat.fnExactRepairProgram
