import Derived.Test.YtghngiekkkeohaaPuSpecEqual
import Derived.Test.YtghngiekkkeohaaPuImplEqual
import Derived.Test.YtghngiekkkeohaaPuGuardEq
import Derived.Test.YtghngiekkkeohaaFO
import Derived.Test.YtghngiekkkeohaaFlawsFnExactEqualGuard
namespace Go.Proofs.Ytghngiekkkeohaa.Pure
set_option linter.unusedSimpArgs false
set_option linter.unusedVariables false
open Go.RowKit Go.Proofs.Ytghngiekkkeohaa.F Go.Proofs.Ytghngiekkkeohaa.Pu Go.Proofs.YtghngiekkkeohaaW.PrintWords Go.Proofs.YtghngiekkkeohaaW.PrintLast

theorem FnExactEqualGuard : ∀ (z0 : S33) (z1 : S33), (G33 z0) → (G33 z1) → ∃ k, laws_FnExactEqualGuard.f k z0.f0 z0.f1.f0 z0.f1.f1 z0.f1.f2 z0.f1.f3 z0.f2.f0 z0.f2.f1 z0.f2.f2 z0.f2.f3 z1.f0 z1.f1.f0 z1.f1.f1 z1.f1.f2 z1.f1.f3 z1.f2.f0 z1.f2.f1 z1.f2.f2 z1.f2.f3 = some true := by
  intro z y hG hG1
  refine Ev.rounds ?_
  unfold laws_FnExactEqualGuard.f
  obtain ⟨r, hr, hb⟩ := szGuard_ev z hG 1048576 (by omega) (by omega)
  refine ev_bind hr (ev_ite (fun _ => Ev.now _) (fun hn => ?_))
  obtain ⟨r1, hr1, hb1⟩ := szGuard_ev y hG1 r (by omega) (by omega)
  refine ev_bind hr1 (ev_ite (fun _ => Ev.now _) (fun hn1 => ?_))
  have hT := toGuard_ev z (by omega) (by omega)
  have hT1 := toGuard_ev y (by omega) (by omega)
  have h1 := nd_conv z.f1
  have h2 := nd_conv z.f2
  have h3 := nd_conv y.f1
  have h4 := nd_conv y.f2
  have hE := eqGuard_refl z.f0 (conv z.f1) (conv z.f2) (by omega) (by omega)
  have hE1 := eqGuard_refl y.f0 (conv y.f1) (conv y.f2) (by omega) (by omega)
  have hS : Ev (fun k => spec_EqualGuard.f k z.f0 (conv z.f1).f0 (conv z.f1).f1 (conv z.f1).f2 (conv z.f1).f3 (conv z.f2).f0 (conv z.f2).f1 (conv z.f2).f2 (conv z.f2).f3 y.f0 (conv y.f1).f0 (conv y.f1).f1 (conv y.f1).f2 (conv y.f1).f3 (conv y.f2).f0 (conv y.f2).f1 (conv y.f2).f2 (conv y.f2).f3) (if z.f0 = y.f0 then (if eqT (conv z.f1) (conv y.f1) = true then eqT (conv z.f2) (conv y.f2) else false) else false) := by
    unfold spec_EqualGuard.f
    refine ev_ite (fun e => ?_) (fun e => ev_now (by rw [if_neg e]))
    rw [if_pos e]
    refine ev_bind (spec_Equal_ev _ _ (by omega)) (ev_ite (fun e1 => ?_) (fun e1 => ev_now (by rw [if_neg e1])))
    rw [if_pos e1]
    exact ev_bind (spec_Equal_ev _ _ (by omega)) (Ev.now _)
  have hI : Ev (fun k => impl_EqualGuard.f k z.f0 (conv z.f1).f0 (conv z.f1).f1 (conv z.f1).f2 (conv z.f1).f3 (conv z.f2).f0 (conv z.f2).f1 (conv z.f2).f2 (conv z.f2).f3 y.f0 (conv y.f1).f0 (conv y.f1).f1 (conv y.f1).f2 (conv y.f1).f3 (conv y.f2).f0 (conv y.f2).f1 (conv y.f2).f2 (conv y.f2).f3) (if z.f0 = y.f0 then (if eqT (conv z.f1) (conv y.f1) = true then eqT (conv z.f2) (conv y.f2) else false) else false) := by
    unfold impl_EqualGuard.f
    refine ev_ite (fun e => ?_) (fun e => ev_now (by rw [if_neg e]))
    rw [if_pos e]
    refine ev_bind (impl_Equal_ev _ _ (by omega)) (ev_ite (fun e1 => ?_) (fun e1 => ev_now (by rw [if_neg e1])))
    rw [if_pos e1]
    exact ev_bind (impl_Equal_ev _ _ (by omega)) (Ev.now _)
  refine ev_bind hT (ev_bind hT1 (ev_bind hS (ev_bind hT (ev_bind hT1 (ev_bind hI (ev_neg (by simp) (ev_bind hT (ev_bind hE (ev_pos rfl ?_)))))))))
  exact ev_bind hT1 (ev_bind hE1 (ev_pos rfl (Ev.now _)))
end Go.Proofs.Ytghngiekkkeohaa.Pure
