/-
  PROVED: 'laws.FnScriptCheck' returns true for every input, and each argument reads behind the call as it read before.
  No condition: the given statement, nothing ahead of it.
-/
import Derived.Test.YtjnhlgpbojggnaaGreatDoorS3B06
import Derived.Test.YtjnhlgpbojggnaaGreatDoorTie
import Derived.Test.YtjnhlgpbojggnaaGreatDoorCards
import Derived.SevenTiedAt
import Derived.LaidMore
import Derived.OpenShut
import Derived.Stop.Joined
import Derived.Test.YtjnhlgpbojggnaaGreatDoorF01
set_option linter.unusedVariables false
set_option linter.unusedSimpArgs false
namespace Go.Proofs.YtjnhlgpbojggnaaGreatDoor.fnScriptCheck
open Go.AL Go.ChangeShapes Go.WideShapes Go.ChangeAt Go.RowKit
set_option linter.unusedVariables false
theorem own : ownKnob Tryz.prog.godebug = none := by kernel_rfl
def laid3 : List (String × DataW Unit) := [("math/bits.deBruijn32tab", Rows.laid_math_bits_deBruijn32tab), ("math/bits.deBruijn64tab", Rows.laid_math_bits_deBruijn64tab), ("internal/strconv.uint64pow10", Rows.laid_internal_strconv_uint64pow10), ("unicode/utf8.acceptRanges", Rows.laid_unicode_utf8_acceptRanges), ("unicode/utf8.first", Rows.laid_unicode_utf8_first)]
def firstV : Array Value := (Go.Pinned.utf8FirstZ.map fun (n : Nat) => Value.int .u8 (n : Int)).toArray
def setFirst : Obj → Obj
  | .cells _ t z => .cells firstV t z
  | o => o
noncomputable def door (os : Os) : World := { World.doorLaid Tryz.prog 400 os with heap := (World.doorLaid Tryz.prog 400 os).heap.modify 1 setFirst }
set_option maxRecDepth 100000 in
theorem door_met (os : Os) (args : Array Value) : laidMetH Tryz.prog laid3 ((door os).forCall (fun _ _ => 0) ⟨#[], args, []⟩).memory :=
  laidMetH_of_parts3 (fuel := 70) (laidMet_of_run' 70 (by kernel_rfl) (by kernel_rfl)) (by kernel_rfl) (by kernel_rfl)
set_option maxRecDepth 100000 in
theorem lifted (os : Os) (started : os.Started) (H : Type) (enc : TypeId × Value → H) :
    ReturnsInHanded {} Tryz.checked os 8 .any (fun w args => (Rows.fnScriptCheckSpec.pre enc Tryz.prog Tryz.f8 [] false w args ∧ laidMetH Tryz.prog laid3 w) ∧ sizedMet enc Tryz.prog Tryz.f8 (OpenSpec.ofChange Rows.fnScriptCheckSpec) false w args) (Rows.fnScriptCheckSpec.post enc Tryz.prog Tryz.f8 false true false false) := by
  refine returnsInHanded_of_change_and (C := Tryz.checked) (X := fun w _ => laidMetH Tryz.prog laid3 w) (fun _ _ _ hh h => h.of_heap hh) own started (by kernel_rfl) Tryz.func8
    (ChangeSpec.witness_shaped (enc := enc) (C := Tryz.checked) (os := os) (X := fun w _ => laidMetH Tryz.prog laid3 w) false (door os) #[.slice none 0 0] 8 rfl (World.shaped_of_RefB (by kernel_rfl) (by kernel_rfl)) (by kernel_rfl) (by kernel_rfl) (by kernel_rfl) (door_met os _)) ?_
  intro W base args ds gs before hval0 hW hcnd _ hL _
  have hval : ∀ (j : Nat) t v, Tryz.f8.params[j]? = some t → args[j]? = some v → Value.okWide Tryz.prog W .any base t v := hval0
  have hW' := hW
  obtain ⟨p, q, hA0, hV, rfl, hfz, hnd⟩ := hW
  have hA : DataW.TrodAll enc Tryz.prog W 0 (fun _ => true) true Tryz.f8.params.toList args.toList ds p := hA0
  rw [Tryz.params8] at hA hval
  obtain ⟨v0, vs0, d0, ds0, p0, q0, hargs, rfl, rfl, h0, r0⟩ := trodAll_cons hA
  obtain ⟨rfl, rfl, rfl⟩ := trodAll_nil r0
  obtain rfl : args = #[v0] := by cases args; simp_all
  obtain ⟨rfl, rfl⟩ := trodVars_none hV
  obtain ⟨bs, hb⟩ := bytes_in (hval 0 22 v0 rfl rfl) h0
  clear hA0 hval0
  simp only [List.append_nil] at hW'
  have hlt0 : ∀ x ∈ p0, x.block < W.heap.size := fun x hx => by simpa using hW'.lt x (by simp [hx])
  refine (calls_of_pcL (FnScriptCheck_c bs) (vs := [v0]) (by simp only [RdV]; exact ⟨_, _, rfl, hb, rfl⟩)).mono fun e W' ⟨he, hg⟩ => ?_
  subst he
  have hs0 : ∀ sp : Nat → Bool, (∀ x ∈ p0, sp x.block = true) → DataW.Trod enc Tryz.prog W' 0 sp true 22 v0 d0 p0 := fun sp hsp =>
    WideElems.Trod_stays laid (by kernel_rfl) (of_decide_eq_true (by kernel_rfl)) h0 (fun x hx => hg.same (hlt0 x hx)) hsp
  refine ⟨_, rfl, ?_⟩
  refine ⟨_, _, _, [], p0, [], hW', trodAll_cons_mk (shut_bool Tryz.underlying4 _) trodAll_mk0, trodAll_mk1 (hs0 _ (fun x hx => by simpa using hlt0 x hx)), rfl, hg.frame _, fun h => by cases h⟩
theorem jg1 : (Rows.fnScriptCheckRow.inPlace == Tryz.pinned.checked.prog.inPlace 8) = true := by kernel_rfl
theorem jg2 : (Rows.fnScriptCheckRow.unfollowed == Tryz.pinned.checked.prog.unfollowed 8) = true := by kernel_rfl
theorem jg3 : (Rows.fnScriptCheckRow.recurses == Tryz.pinned.checked.prog.recurses 8) = true := by kernel_rfl
theorem jg4 : (Rows.fnScriptCheckRow.named == Tryz.pinned.checked.prog.varsNamed 8) = true := by kernel_rfl
theorem jg5 : joinedFacts Tryz.pinned.checked.prog 8 Tryz.f8 Rows.fnScriptCheckSpec Rows.fnScriptCheckRow = true :=
  jf_of jf1 jf2 jf3 jf4 jf5 jf6 jf7 jf8 jf9 jg1 jg2 jg3 jg4 (by kernel_rfl) (by kernel_rfl) (by kernel_rfl) rfl rfl (by kernel_rfl) (by kernel_rfl) (by kernel_rfl) (by kernel_rfl) (by kernel_rfl) (by kernel_rfl) (by kernel_rfl) (by kernel_rfl) (by kernel_rfl) rfl (by kernel_rfl) (by kernel_rfl) (by kernel_rfl) (by kernel_rfl)
theorem over : Rows.fnScriptCheckRow.holds Tryz.pinned (OpenSpec.ofChange Rows.fnScriptCheckSpec) :=
  OpenClaim.holds_of_wide 8 Tryz.f8 rfl rfl rfl rfl rfl rfl rfl ⟨rfl, rfl, rfl, rfl, rfl⟩ rfl rfl rfl rfl rfl (by kernel_rfl) Tryz.func8 jg5
    (of_decide_eq_true (by kernel_rfl)) (by unfold Func.isWrapper; first | (rw [if_pos (by decide +kernel)]; kernel_rfl) | (rw [if_neg (by decide +kernel)]; exact ⟨rfl, rfl⟩))
    (fun os started H enc _ => lifted os started H enc)
theorem pc1 : Rows.fnScriptCheckRow.wfByText (OpenSpec.ofChange Rows.fnScriptCheckSpec) = true := by kernel_rfl
theorem pc2 : Tryz.pinned.checked.prog.mainIs = some ((true, "6ccd2d9463e81f3442b2f44e9fac94596889347d20ed811abe6a15795062c832").1, (true, "6ccd2d9463e81f3442b2f44e9fac94596889347d20ed811abe6a15795062c832").2.toList) := by kernel_rfl
theorem pc3 : Tryz.prog.funcNamed "loop.example/borrowcheck/laws.FnScriptCheck" = some 8 := by kernel_rfl
theorem pc4 : false = Tryz.pinned.checked.prog.looks [] := by kernel_rfl
theorem pc5 : ([22].all fun u => !Tryz.prog.wantsStandIn u) = true := by kernel_rfl
theorem pc6 : false = Rows.fnScriptCheckRow.goesBy Tryz.pinned.checked.prog := by kernel_rfl
theorem proved : Rows.FnScriptCheckCardSaid := -- CARD
  Claim7.holds_tied_plain_at .later [] [.data, .data, .data, .data, .pinned] true (true, "6ccd2d9463e81f3442b2f44e9fac94596889347d20ed811abe6a15795062c832") false
    over (fun _ h => by cases h) pc1 (fun _ h => by cases h) fnScriptCheck_row_tie rfl ⟨rfl, rfl⟩ pc2 rfl
    (fun f fn hf hfn => by
      obtain rfl : f = 8 := Option.some.inj (pc3.symm.trans hf) |>.symm
      obtain rfl : fn = Tryz.f8 := (Option.some.inj (Tryz.func8.symm.trans hfn)).symm
      exact ⟨pc4, fun j t ht => by
        rw [Tryz.params8] at ht
        have hm : t ∈ [22] := by simpa using Array.mem_of_getElem? ht
        exact (show Tryz.prog.wantsStandIn t = false by simpa using List.all_eq_true.1 pc5 t hm)⟩)
    pc6
#print axioms proved
end Go.Proofs.YtjnhlgpbojggnaaGreatDoor.fnScriptCheck
