import Derived.Test.YtghngiekkkeohaaPuEqual
import Derived.Test.YtghngiekkkeohaaFimplEqualTerm
namespace Go.Proofs.Ytghngiekkkeohaa.Pu
set_option linter.unusedSimpArgs false
set_option linter.unusedVariables false
open Go.RowKit Go.Proofs.Ytghngiekkkeohaa.F Go.Proofs.YtghngiekkkeohaaW.PrintWords
theorem impl_Equal_ev (z : S29) : ∀ y : S29, nd z ≤ 4611686018427387904 → Ev (fun k => impl_EqualTerm.f k z.f0 z.f1 z.f2 z.f3 y.f0 y.f1 y.f2 y.f3) (eqT z y) := by
  induction z using term_ind with
  | h z ih =>
    intro y hz
    have h1 := nd_fields z
    have h2 := ndL_length z.f3
    rw [eqT_fields]
    refine Ev.step (fun k => by rw [impl_EqualTerm.f]) ?_
    refine ev_ite (fun e0 => ev_ite (fun e1 => ev_ite (fun e2 => ?_) (fun e2 => ev_now ?_)) (fun e1 => ev_now ?_)) (fun e0 => ev_now ?_)
    · rw [e0, e1, bytes_inj e2]
      simp only [decide_true, Bool.true_and]
      refine ev_bind ?_ (Ev.now _)
      refine Ev.step (fun k => by rw [impl_Term.f]) ?_
      refine ev_ite (fun hl => ?_) (fun hl => ev_now (eqL_len (by omega)).symm)
      have h := loop_to z.f3.length (fun i k => impl_Term.l0 k y.f3 z.f3 (z.f3.length : Int) (i : Int)) (fun i => eqL (z.f3.drop i) (y.f3.drop i)) ?_ ?_ 0 (by omega)
      · simpa using h
      · intro i hi ih2
        have h3 := ndL_mem z.f3 i hi
        refine Ev.step (fun k => by rw [impl_Term.l0]) (ev_pos (by omega) (ev_pos (by omega) (ev_pos (by omega) (ev_pos (by omega) ?_))))
        rw [rdT_at _ _ hi, rdT_at _ _ (by omega), drop_at _ _ hi, drop_at _ _ (show i < y.f3.length by omega)]
        simp only [eqL]
        refine ev_bind (ih i hi _ (by omega)) ?_
        refine ev_ite (fun e => ?_) (fun e => ev_now ?_)
        · rw [e, Bool.true_and, wrap_succ (by omega)]
          exact ih2
        · rw [Bool.eq_false_iff.2 e]; rfl
      · refine Ev.step (fun k => by rw [impl_Term.l0]) (ev_neg (by omega) (ev_now ?_))
        rw [List.drop_length, show z.f3.length = y.f3.length by omega, List.drop_length]
        rfl
    · have e : ¬ z.f2 = y.f2 := fun e => e2 (by rw [e])
      simp only [e, decide_false, Bool.false_and, Bool.and_false]
    · simp only [e1, decide_false, Bool.false_and, Bool.and_false]
    · simp only [e0, decide_false, Bool.false_and, Bool.and_false]
end Go.Proofs.Ytghngiekkkeohaa.Pu
