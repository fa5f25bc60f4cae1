/-
  A part of the proofs over this program: the closed facts of the program that every row asks, each by itself.
-/
import Derived.Test.YtjnhlgpbojggnaaGreatDoorRows
import Derived.WalkKit
import Derived.ProofKit
import Derived.OpenShut
namespace Go.Proofs.YtjnhlgpbojggnaaGreatDoor
theorem jf1 : laidOutB Tryz.pinned.checked.prog = true := by kernel_rfl
theorem jf2 : mapsRowed Tryz.pinned.checked.prog = true := by kernel_rfl
theorem jf3 : (Tryz.pinned.checked.prog.stops == []) = true := by kernel_rfl
theorem jf4 : (Tryz.pinned.checked.prog.stopKnobs == []) = true := by kernel_rfl
theorem jf5 : Tryz.pinned.checked.prog.stopsHeard = true := by kernel_rfl
theorem jf6 : Tryz.pinned.checked.prog.mayEnter = true := by kernel_rfl
theorem jf7 : (false == Tryz.pinned.checked.prog.liftsFinal) = true := by kernel_rfl
theorem jf8 : (Tryz.pinned.checked.prog.make == some .cut) = true := by kernel_rfl
theorem jf9 : (true == Tryz.pinned.checked.prog.plainKeys) = true := by kernel_rfl
theorem jf_and {a b : Bool} (h : a = true) (h' : b = true) : (a && b) = true := by rw [h, h']; rfl
theorem jf_of {P : Program} {f : FuncId} {fn : Func} {s : ChangeSpec} {c : OpenClaim}
    (h2 : laidOutB P = true) (h3 : mapsRowed P = true) (h7 : (P.stops == []) = true) (h9 : (P.stopKnobs == []) = true) (h25 : P.stopsHeard = true) (h26 : P.mayEnter = true) (h27 : (c.lifted == P.liftsFinal) = true) (h28 : (P.make == some c.make) = true) (h23 : (c.plainKeys == P.plainKeys) = true)
    (h10 : (c.inPlace == P.inPlace f) = true) (h11 : (c.unfollowed == P.unfollowed f) = true) (h12 : (c.recurses == P.recurses f) = true) (h13 : (c.named == P.varsNamed f) = true)
    (h1 : c.wf (OpenSpec.ofChange s) = true) (h4 : fn.params.all (P.readableRec ·) = true) (h5 : namedTie P c.named s.vars = true) (h6 : (c.stops == []) = true) (h8 : (c.knobs == []) = true)
    (h14 : (c.maps == (fn.params.toList ++ s.plain.varTypes P).any (P.mapsRec ·)) = true) (h15 : (c.ifaces == (fn.params.toList ++ s.plain.varTypes P).any (P.ifacesRec ·)) = true) (h16 : (c.mapsOut == P.mapsAmong fn.resultTypes.toList) = true)
    (h17 : (c.loops == (fn.params.toList ++ s.plain.varTypes P).any (P.loopsFrom ·)) = true) (h18 : (c.wideKeys == (fn.params.toList ++ s.plain.varTypes P ++ fn.resultTypes.toList).any (P.wideKeysFrom ·)) = true)
    (h19 : s.vars.all (P.varReadable ·) = true) (h20 : fn.resultTypes.all (fun t => P.readableRec t && decide (t < P.types.size)) = true) (h21 : (c.ifacesOut == fn.resultTypes.toList.any (P.ifacesRec ·)) = true) (h22 : (c.loopsOut == fn.resultTypes.toList.any (P.loopsFrom ·)) = true)
    (h24 : c.shortTexts.isNone = true) (h29 : (c.kinds == (if c.domain.isEmpty then [] else fn.params.toList.map fun t => match P.underlying t with | some (.int k) => some k | _ => none)) = true) (h30 : (c.pinned == c.pinnedBy) = true)
    (h31 : (c.veiled == (fn.params.toList ++ s.plain.varTypes P ++ fn.resultTypes.toList).any (P.veiledRec ·)) = true) (h32 : c.veiledFits P fn.params.toList (fn.params.toList ++ s.plain.varTypes P ++ fn.resultTypes.toList) = true) :
    joinedFacts P f fn s c = true := by
  unfold joinedFacts
  rw [h1, h2, h3, h4, h5, h6, h7, h8, h9, h10, h11, h12, h13, h14, h15, h16, h17, h18, h19, h20, h21, h22, h23, h24, h25, h26, h27, h28]
  exact jf_and (jf_and (jf_and (jf_and rfl h29) h30) h31) h32
end Go.Proofs.YtjnhlgpbojggnaaGreatDoor
