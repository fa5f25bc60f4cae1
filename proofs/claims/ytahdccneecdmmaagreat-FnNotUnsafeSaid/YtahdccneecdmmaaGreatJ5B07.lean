/-
 A part of the proofs over this program: rules and contracts of its functions (the contracts).
-/
import Derived.Test.YtahdccneecdmmaaGreatJ5B06
set_option linter.unusedVariables false
set_option linter.unusedSimpArgs false
set_option maxHeartbeats 8000000
set_option maxRecDepth 4000
attribute [local irreducible] Go.AL.RW Go.AL.AW Go.AL.Stop
namespace Go.Proofs.YtahdccneecdmmaaGreat
open Go.AL Go.RowKit
theorem vY (bs:List UInt8):PC Tryz.prog 8 [sl cU bs] (fun r => r = bv true):=by
 rcases Nat.lt_or_ge 1048576 bs.length with hb|hb
 ·refine aC Tryz.func8 Tryz.ntmps8 ?_
  repeat' (first|refine aE ?_|(refine aK ?_ ?_ <;> intro hc hq <;> try (exfalso;omega))|fail)
  exact aD rfl ⟨rfl,rfl⟩
 refine aC Tryz.func8 Tryz.ntmps8 ?_
 repeat' (first|(apply aF;first|((with_reducible apply J6 (k := 42));(case ha => rfl);(case h => exact Jn bs hb);(case hp => (exact Pur.pf));(case hN => rfl);(rintro _ ⟨f,k,sf,rfl⟩ _))|(with_reducible apply aW (d := 20)))|refine aE ?_|(refine aK ?_ ?_ <;> intro hc hq <;> try (exfalso;omega))|fail)
 refine b0 ?_
 obtain ⟨o,h1,h2,hl⟩ := Ml f k sf
 have hlaw : sf = false → k ≠ 3 → o.isSome = false := fun hs hk => by
  cases o with
  | none => rfl
  | some n =>
   obtain ⟨_,_,_,e,_⟩ := hl n rfl
   obtain ⟨e1,e2⟩ := fjP_iff.1 e
   have := (NJ (tI n) (MN n)).2 (by omega)
   rw [e2,hs] at this;cases this.1
 generalize o.isSome = ok at *
 generalize o.getD 0 = m at *
 repeat' (first|(apply aF;first|((with_reducible apply aA (k := 43));(case ha => rfl);(case h => exact h1);(case hp => (rfl));(case hN => rfl))|((with_reducible apply aA (k := 44));(case ha => rfl);(case h => exact h2);(case hp => (rfl));(case hN => rfl)))|refine aE ?_|(refine bW ?_ ?_ <;> intro hg hq <;> try (exfalso;omega))|fail)
 all_goals first
  | (exfalso;exact (by assumption : ¬ True) trivial)
  | exact aD rfl ⟨rfl,rfl⟩
  | (refine aD rfl ⟨?_,rfl⟩; simp only [aN,decide_true]; done)
  | (refine aD rfl ⟨?_,rfl⟩; simp only [aN]; grind)
end Go.Proofs.YtahdccneecdmmaaGreat
