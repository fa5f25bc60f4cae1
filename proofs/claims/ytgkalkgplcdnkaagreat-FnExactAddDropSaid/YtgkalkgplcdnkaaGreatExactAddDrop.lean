/-
  PROVED: 'laws.FnExactAddDrop' returns true for every input, and each argument reads behind the call as it read before.
  No condition: the given statement, nothing ahead of it.
-/
import Derived.Test.YtgkalkgplcdnkaaGreatW3B05
import Derived.Test.YtgkalkgplcdnkaaGreatF01
set_option linter.unusedVariables false
set_option linter.unusedSimpArgs false
namespace Go.Proofs.YtgkalkgplcdnkaaGreat.fnExactAddDrop
open Go.AL Go.ChangeShapes Go.WideShapes Go.ChangeAt Go.RowKit
set_option linter.unusedVariables false
theorem own : ownKnob Tryz.prog.godebug = none := by kernel_rfl
set_option maxRecDepth 100000 in
theorem lifted (os : Os) (started : os.Started) (H : Type) (enc : TypeId × Value → H) :
    ReturnsInHanded {} Tryz.checked os 5 .any (Rows.fnExactAddDropSpec.pre6 enc Tryz.prog Tryz.f5 Rows.fnExactAddDropRow.domain false) (Rows.fnExactAddDropSpec.post enc Tryz.prog Tryz.f5 false true false false) := by
  refine returnsInHanded_of_change (C := Tryz.checked) own started (by kernel_rfl) Tryz.func5
    (ChangeSpec.witness6 (enc := enc) (C := Tryz.checked) false ⟨#[], #[.agg #[.slice none 0 0, .slice none 0 0], .int .i64 0, .int .i64 0], []⟩ 8 (by kernel_rfl) (by kernel_rfl) (by kernel_rfl) (by kernel_rfl)) ?_
  intro W base args ds gs before hval0 hW hcnd _
  have hval : ∀ (j : Nat) t v, Tryz.f5.params[j]? = some t → args[j]? = some v → Value.okWide Tryz.prog W .any base t v := hval0
  have hW' := hW
  obtain ⟨p, q, hA0, hV, rfl, hfz, hnd⟩ := hW
  have hA : DataW.TrodAll enc Tryz.prog W 0 (fun _ => true) true Tryz.f5.params.toList args.toList ds p := hA0
  rw [Tryz.params5] at hA hval
  obtain ⟨v0, vs0, d0, ds0, p0, q0, hargs, rfl, rfl, h0, r0⟩ := trodAll_cons hA
  obtain ⟨v1, vs1, d1, ds1, p1, q1, rfl, rfl, rfl, h1, r1⟩ := trodAll_cons r0
  obtain ⟨v2, vs2, d2, ds2, p2, q2, rfl, rfl, rfl, h2, r2⟩ := trodAll_cons r1
  obtain ⟨rfl, rfl, rfl⟩ := trodAll_nil r2
  obtain rfl : args = #[v0, v1, v2] := by cases args; simp_all
  obtain ⟨rfl, rfl⟩ := trodVars_none hV
  obtain ⟨pr, hl, hln, hb⟩ := GY (hval 0 25 v0 rfl rfl) h0
  obtain ⟨n1, rfl⟩ := okWide_int Tryz.underlying3 (hval 1 3 v1 rfl rfl)
  obtain ⟨n2, rfl⟩ := okWide_int Tryz.underlying3 (hval 2 3 v2 rfl rfl)
  clear hA0 hval0
  simp only [List.append_nil] at hW'
  have hlt0 : ∀ x ∈ p0, x.block < W.heap.size := fun x hx => by simpa using hW'.lt x (by simp [hx])
  have hlt1 : ∀ x ∈ p1, x.block < W.heap.size := fun x hx => by simpa using hW'.lt x (by simp [hx])
  have hlt2 : ∀ x ∈ p2, x.block < W.heap.size := fun x hx => by simpa using hW'.lt x (by simp [hx])
  refine (tI (oA pr n1 n2 hl hln) (vs := [v0, .int .i64 n1, .int .i64 n2]) (by simp only [RdV]; exact ⟨_, _, rfl, hb, _, _, rfl, rfl, _, _, rfl, rfl, rfl⟩)).mono fun e W' ⟨he, hg⟩ => ?_
  subst he
  have hs0 : ∀ sp : Nat → Bool, (∀ x ∈ p0, sp x.block = true) → DataW.Trod enc Tryz.prog W' 0 sp true 25 v0 d0 p0 := fun sp hsp =>
    WideElems.Trod_stays I6 (by kernel_rfl) (of_decide_eq_true (by kernel_rfl)) h0 (fun x hx => hg.same (hlt0 x hx)) hsp
  have hs1 : ∀ sp : Nat → Bool, (∀ x ∈ p1, sp x.block = true) → DataW.Trod enc Tryz.prog W' 0 sp true 3 (.int .i64 n1) d1 p1 := fun sp hsp =>
    WideElems.Trod_stays I6 (by kernel_rfl) (of_decide_eq_true (by kernel_rfl)) h1 (fun x hx => hg.same (hlt1 x hx)) hsp
  have hs2 : ∀ sp : Nat → Bool, (∀ x ∈ p2, sp x.block = true) → DataW.Trod enc Tryz.prog W' 0 sp true 3 (.int .i64 n2) d2 p2 := fun sp hsp =>
    WideElems.Trod_stays I6 (by kernel_rfl) (of_decide_eq_true (by kernel_rfl)) h2 (fun x hx => hg.same (hlt2 x hx)) hsp
  refine ⟨_, rfl, ?_⟩
  refine ⟨_, _, _, [], p0 ++ (p1 ++ p2), [], hW', trodAll_cons_mk (shut_bool Tryz.underlying4 _) trodAll_mk0, trodAll_mk3 (hs0 _ (fun x hx => by simpa using hlt0 x hx)) (hs1 _ (fun x hx => by simpa using hlt1 x hx)) (hs2 _ (fun x hx => by simpa using hlt2 x hx)), rfl, hg.frame _, fun h => by cases h⟩
theorem jg1 : (Rows.fnExactAddDropRow.inPlace == Tryz.pinned.checked.prog.inPlace 5) = true := by kernel_rfl
theorem jg2 : (Rows.fnExactAddDropRow.unfollowed == Tryz.pinned.checked.prog.unfollowed 5) = true := by kernel_rfl
theorem jg3 : (Rows.fnExactAddDropRow.recurses == Tryz.pinned.checked.prog.recurses 5) = true := by kernel_rfl
theorem jg4 : (Rows.fnExactAddDropRow.named == Tryz.pinned.checked.prog.varsNamed 5) = true := by kernel_rfl
theorem jg5 : joinedFacts Tryz.pinned.checked.prog 5 Tryz.f5 Rows.fnExactAddDropSpec Rows.fnExactAddDropRow = true :=
  jf_of jf1 jf2 jf3 jf4 jf5 jf6 jf7 jf8 jf9 jg1 jg2 jg3 jg4 (by kernel_rfl) (by kernel_rfl) (by kernel_rfl) rfl rfl (by kernel_rfl) (by kernel_rfl) (by kernel_rfl) (by kernel_rfl) (by kernel_rfl) (by kernel_rfl) (by kernel_rfl) (by kernel_rfl) (by kernel_rfl) rfl (by kernel_rfl) (by kernel_rfl) (by kernel_rfl) (by kernel_rfl)
theorem over : Rows.fnExactAddDropRow.holds Tryz.pinned (OpenSpec.ofChange Rows.fnExactAddDropSpec) :=
  OpenClaim.holds_of_wide 5 Tryz.f5 rfl rfl rfl rfl rfl rfl rfl ⟨rfl, rfl, rfl, rfl, rfl⟩ rfl rfl rfl rfl rfl (by kernel_rfl) Tryz.func5 jg5
    (of_decide_eq_true (by kernel_rfl)) (by unfold Func.isWrapper; (rw [if_neg (by decide +kernel)]; exact ⟨rfl, rfl⟩))
    (fun os started H enc _ => lifted os started H enc)
theorem proved : Rows.FnExactAddDropSaid :=
  over
#print axioms proved
end Go.Proofs.YtgkalkgplcdnkaaGreat.fnExactAddDrop
