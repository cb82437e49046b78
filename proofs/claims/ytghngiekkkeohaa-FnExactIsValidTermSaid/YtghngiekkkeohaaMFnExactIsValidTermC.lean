-- Written by this session's own programs for this claim.
import Derived.Test.YtghngiekkkeohaaMFnExactIsValidTermB
/-! Valid terms. -/
namespace Go.Proofs.Ytghngiekkkeohaa.Pu
set_option linter.unusedSimpArgs false
set_option linter.unusedVariables false
open Go.RowKit Go.Proofs.Ytghngiekkkeohaa.F Go.Proofs.YtghngiekkkeohaaW.PrintWords
/-- A word of the modulus. -/
def wordB (z : S29) : Bool := decide (z.f0 = 3) && (decide (0 ≤ z.f1) && decide (z.f1 < 4)) && (decide (z.f2.toList = []) && decide (z.f3 = []))
/-- One node is in order. -/
def nodeB (z : S29) : Bool := if z.f0 = 1 then named 65 90 z.f2 && decide (z.f1 = 0) && decide (z.f3 = []) else if z.f0 = 2 then named 97 122 z.f2 && decide (z.f1 = 0) else wordB z
mutual
def okT : S29 → Bool
  | ⟨a, b, c, l⟩ => okL l && nodeB ⟨a, b, c, l⟩
def okL : List S29 → Bool
  | [] => true
  | x :: xs => okT x && okL xs
end
mutual
/-- All names are short enough to be looked at. -/
def smT : S29 → Prop
  | ⟨_, _, c, l⟩ => c.size ≤ 4611686018427387904 ∧ smL l
def smL : List S29 → Prop
  | [] => True
  | x :: xs => smT x ∧ smL xs
end
theorem okT_fields (z : S29) : okT z = (okL z.f3 && nodeB z) := by
  cases z
  rfl
theorem smT_fields (z : S29) : smT z = (z.f2.size ≤ 4611686018427387904 ∧ smL z.f3) := by
  cases z
  rfl
theorem smL_at (l : List S29) : ∀ (i : Nat) (h : i < l.length), smL l → smT l[i] := by
  induction l with
  | nil => intro i h; simp at h
  | cons x xs ih =>
    intro i h hs
    cases i with
    | zero => exact hs.1
    | succ i => simp only [List.getElem_cons_succ]; exact ih i (by simpa using h) hs.2
mutual
theorem sm_conv : ∀ z : S24, wt z ≤ 1048576 → smT (conv z)
  | ⟨a, b, c, l⟩ => by
    intro h
    simp only [wt] at h
    simp only [conv, smT]
    exact ⟨by omega, smL_conv l (by omega)⟩
theorem smL_conv : ∀ l : List S24, wtL l ≤ 1048576 → smL (convL l)
  | [] => by
    intro _
    simp [convL, smL]
  | x :: xs => by
    intro h
    simp only [wtL] at h
    simp only [convL, smL]
    exact ⟨sm_conv x (by omega), smL_conv xs (by omega)⟩
end
theorem nil_len (l : List S29) : ((l.length : Int) == 0) = decide (l = []) := by
  cases l with
  | nil => rfl
  | cons x xs => simp; omega
theorem isWord_eq (z : S29) : impl_isWord.f z.f0 z.f1 z.f2 z.f3 = some (wordB z) := by
  unfold impl_isWord.f wordB
  rw [nil_len]
  by_cases h0 : z.f0 = 3
  · rw [if_pos h0]
    by_cases h1 : z.f1 ≥ 0
    · rw [if_pos h1]
      by_cases h2 : z.f1 < 4
      · rw [if_pos h2]
        by_cases h3 : z.f2.toList = []
        · rw [if_pos h3]
          have h1' : 0 ≤ z.f1 := h1
          simp [h0, h1', h2, h3]
        · rw [if_neg h3]; simp [h3]
      · rw [if_neg h2]; simp [h2]
    · rw [if_neg h1]
      have h1' : ¬ 0 ≤ z.f1 := h1
      simp [h1']
  · rw [if_neg h0]; simp [h0]
theorem areNodes_ev (z : S29) : nd z ≤ 4611686018427387904 → smT z → Ev (fun k => impl_areNodes.f k z.f0 z.f1 z.f2 z.f3) (nodeB z && (decide (z.f0 ≠ 2) || okL z.f3)) := by
  induction z using term_ind with
  | h z ih =>
    intro hz hs
    rw [smT_fields] at hs
    have h1 := nd_fields z
    have h2 := ndL_length z.f3
    refine Ev.step (fun k => by rw [impl_areNodes.f]) ?_
    unfold nodeB
    refine ev_ite (fun e0 => ?_) (fun e0 => ?_)
    · rw [if_pos e0]
      have e2 : decide (z.f0 ≠ 2) = true := by simp; omega
      rw [e2, Bool.true_or, Bool.and_true]
      refine ev_ite (fun e1 => ev_ite (fun e3 => ?_) (fun e3 => ev_now ?_)) (fun e1 => ev_now ?_)
      · have hl : z.f3 = [] := List.eq_nil_of_length_eq_zero (by omega)
        refine ev_bind (impl_IsVarName_ev z.f2 hs.1) (ev_now ?_)
        simp [e1, hl]
      · have hl : ¬ z.f3 = [] := fun h => e3 (by rw [h]; rfl)
        simp [hl]
      · simp [e1]
    · rw [if_neg e0]
      refine ev_ite (fun e3 => ?_) (fun e3 => ?_)
      · have e2 : decide (z.f0 ≠ 2) = true := by simp; omega
        rw [if_neg (by omega), e2, Bool.true_or, Bool.and_true]
        exact ev_bind0 (isWord_eq z) (Ev.now _)
      · refine ev_ite (fun e2 => ?_) (fun e2 => ev_now ?_)
        · rw [if_pos e2]
          have e2' : decide (z.f0 ≠ 2) = false := by simp; omega
          rw [e2', Bool.false_or]
          refine ev_ite (fun e1 => ev_bind (impl_IsName_ev z.f2 hs.1) (ev_ite (fun e4 => ?_) (fun e4 => ev_now ?_))) (fun e1 => ev_now ?_)
          · have e1' : decide (z.f1 = 0) = true := by simp [e1]
            rw [e4, e1', Bool.true_and, Bool.true_and]
            have h := loop_to z.f3.length (fun i k => impl_areNodes.l0 k z.f3 (z.f3.length : Int) (i : Int)) (fun i => okL (z.f3.drop i)) ?_ ?_ 0 (by omega)
            · simpa using h
            · intro i hi ih2
              have h3 := ndL_mem z.f3 i hi
              have h4 := smL_at z.f3 i hi hs.2
              refine Ev.step (fun k => by rw [impl_areNodes.l0]) (ev_pos (by omega) (ev_pos (by omega) (ev_pos (by omega) ?_)))
              rw [rdT_at _ _ hi]
              refine ev_bind (ih i hi (by omega) h4) ?_
              have ho : okT z.f3[i] = (nodeB z.f3[i] && (decide (z.f3[i].f0 ≠ 2) || okL z.f3[i].f3)) := by
                rw [okT_fields]
                by_cases e5 : z.f3[i].f0 = 2
                · have : decide (z.f3[i].f0 ≠ 2) = false := by simp [e5]
                  rw [this, Bool.false_or, Bool.and_comm]
                · have : decide (z.f3[i].f0 ≠ 2) = true := by simp [e5]
                  rw [this, Bool.true_or, Bool.and_true]
                  cases hb : nodeB z.f3[i] with
                  | false => simp
                  | true =>
                    have hl : z.f3[i].f3 = [] := by
                      unfold nodeB wordB at hb
                      rw [if_neg e5] at hb
                      split at hb
                      · simp only [Bool.and_eq_true, decide_eq_true_eq] at hb; exact hb.2
                      · simp only [Bool.and_eq_true, decide_eq_true_eq] at hb; exact hb.2.2
                    rw [hl]; rfl
              rw [← ho, drop_at _ _ hi]
              simp only [okL]
              refine ev_ite (fun e => ?_) (fun e => ev_now ?_)
              · rw [e, Bool.true_and, wrap_succ (by omega)]; exact ih2
              · rw [Bool.eq_false_iff.2 e]; rfl
            · refine Ev.step (fun k => by rw [impl_areNodes.l0]) (ev_neg (by omega) (ev_now ?_))
              rw [List.drop_length]; rfl
          · rw [Bool.eq_false_iff.2 e4]; simp
          · simp [e1]
        · rw [if_neg e2]
          unfold wordB
          simp [e3]
theorem okT_all (z : S29) : okT z = (nodeB z && (decide (z.f0 ≠ 2) || okL z.f3)) := by
  rw [okT_fields]
  by_cases e5 : z.f0 = 2
  · have : decide (z.f0 ≠ 2) = false := by simp [e5]
    rw [this, Bool.false_or, Bool.and_comm]
  · have : decide (z.f0 ≠ 2) = true := by simp [e5]
    rw [this, Bool.true_or, Bool.and_true]
    cases hb : nodeB z with
    | false => simp
    | true =>
      have hl : z.f3 = [] := by
        unfold nodeB wordB at hb
        rw [if_neg e5] at hb
        split at hb
        · simp only [Bool.and_eq_true, decide_eq_true_eq] at hb; exact hb.2
        · simp only [Bool.and_eq_true, decide_eq_true_eq] at hb; exact hb.2.2
      rw [hl]; rfl
theorem node_ev (z : S29) (hs : z.f2.size ≤ 4611686018427387904) : Ev (fun k => spec_l3Node.f k z.f0 z.f1 z.f2 z.f3) (nodeB z) := by
  unfold spec_l3Node.f nodeB
  refine ev_ite (fun e0 => ?_) (fun e0 => ?_)
  · rw [if_pos e0]
    refine ev_bind (spec_IsVarName_ev z.f2 hs) (ev_ite (fun e => ev_ite (fun e1 => ev_now ?_) (fun e1 => ev_now ?_)) (fun e => ev_now ?_))
    · rw [nil_len, e]; simp [e1]
    · simp [e1]
    · rw [Bool.eq_false_iff.2 e]; simp
  · rw [if_neg e0]
    refine ev_ite (fun e2 => ?_) (fun e2 => ?_)
    · rw [if_pos e2]
      refine ev_bind (spec_IsName_ev z.f2 hs) (ev_ite (fun e => ev_now ?_) (fun e => ev_now ?_))
      · rw [e]; simp
        exact Bool.eq_iff_iff.2 (by simp)
      · rw [Bool.eq_false_iff.2 e]; simp
    · rw [if_neg e2]
      unfold wordB
      refine ev_ite (fun e3 => ev_ite (fun e4 => ev_bind0 (in_eq _ _ _) (ev_ite (fun e => ev_now ?_) (fun e => ev_now ?_))) (fun e4 => ev_now ?_)) (fun e3 => ev_now ?_)
      · simp only [Bool.and_eq_true, decide_eq_true_eq] at e
        have h1 : decide (0 ≤ z.f1) = true := by simp; omega
        have h2 : decide (z.f1 < 4) = true := by simp; omega
        rw [nil_len, h1, h2]; simp [e3, e4]
      · have h : (decide (0 ≤ z.f1) && decide (z.f1 < 4)) = false := by
          simp only [Bool.and_eq_true, decide_eq_true_eq] at e
          simp only [Bool.and_eq_false_iff, decide_eq_false_iff_not]
          omega
        rw [h]; simp
      · simp [e4]
      · simp [e3]
theorem l3All_ev (z : S29) : nd z ≤ 4611686018427387904 → smT z → Ev (fun k => spec_l3All.f k z.f0 z.f1 z.f2 z.f3) (okT z) := by
  induction z using term_ind with
  | h z ih =>
    intro hz hs
    rw [smT_fields] at hs
    have h1 := nd_fields z
    have h2 := ndL_length z.f3
    rw [okT_fields]
    refine Ev.step (fun k => by rw [spec_l3All.f]) ?_
    have h := loop_to z.f3.length (fun i k => spec_l3All.l0 k (i : Int) z.f0 z.f1 z.f2 z.f3) (fun i => okL (z.f3.drop i) && nodeB z) ?_ ?_ 0 (by omega)
    · simpa using h
    · intro i hi ih2
      have h3 := ndL_mem z.f3 i hi
      refine Ev.step (fun k => by rw [spec_l3All.l0]) (ev_pos (by omega) (ev_pos (by omega) ?_))
      rw [rdT_at _ _ hi]
      refine ev_bind (ih i hi (by omega) (smL_at z.f3 i hi hs.2)) ?_
      rw [drop_at _ _ hi]
      simp only [okL]
      refine ev_ite (fun e => ?_) (fun e => ev_now ?_)
      · rw [e, Bool.true_and, wrap_succ (by omega)]; exact ih2
      · rw [Bool.eq_false_iff.2 e]; rfl
    · refine Ev.step (fun k => by rw [spec_l3All.l0]) (ev_neg (by omega) (ev_bind (node_ev z hs.1) (ev_now ?_)))
      rw [List.drop_length]; rfl
theorem l3Left_ev (z : S29) : nd z ≤ 4611686018427387904 → ∀ a : Int, 0 ≤ a → a ≤ 4611686018427387904 → ∃ r, Ev (fun k => spec_l3Left.f k z.f0 z.f1 z.f2 z.f3 a) r ∧ ((nd z : Int) ≤ a → r = a - nd z) ∧ (a < nd z → r = -1) := by
  induction z using term_ind with
  | h z ih =>
    intro hz a h0 ha
    have h1 := nd_fields z
    have h2 := ndL_length z.f3
    have key : ∀ (d i : Nat) (b : Int), i + d = z.f3.length → -1 ≤ b → b ≤ 4611686018427387904 → ∃ r, Ev (fun k => spec_l3Left.l0 k b (i : Int) z.f0 z.f1 z.f2 z.f3) r ∧ ((ndL (z.f3.drop i) : Int) ≤ b → r = b - ndL (z.f3.drop i)) ∧ (b < ndL (z.f3.drop i) → r = -1) := by
      intro d
      induction d with
      | zero =>
        intro i b hd hb hb2
        refine ⟨b, Ev.step (fun k => by rw [spec_l3Left.l0]) (ev_neg (by omega) (Ev.now _)), ?_⟩
        rw [List.drop_eq_nil_of_le (by omega)]
        simp only [ndL]
        omega
      | succ d ihd =>
        intro i b hd hb hb2
        have hi : i < z.f3.length := by omega
        have h3 := ndL_mem z.f3 i hi
        have h4 := nd_pos z.f3[i]
        rw [drop_at _ _ hi]
        simp only [ndL]
        by_cases hneg : b ≥ 0
        · obtain ⟨r, hr, hr1, hr2⟩ := ih i hi (by omega) b (by omega) hb2
          have hb3 : -1 ≤ r ∧ r ≤ 4611686018427387904 := by
            by_cases hc : (nd z.f3[i] : Int) ≤ b
            · have := hr1 hc; omega
            · have := hr2 (by omega); omega
          obtain ⟨r', hr', hr1', hr2'⟩ := ihd (i + 1) r (by omega) hb3.1 hb3.2
          refine ⟨r', Ev.step (fun k => by rw [spec_l3Left.l0]) (ev_pos (by omega) (ev_pos hneg (ev_pos (by omega) ?_))), ?_, ?_⟩
          · rw [rdT_at _ _ hi]
            refine ev_bind hr ?_
            rw [wrap_succ (by omega)]
            exact hr'
          · intro hc
            have e := hr1 (by omega)
            have := hr1' (by omega)
            omega
          · intro hc
            by_cases hc2 : (nd z.f3[i] : Int) ≤ b
            · have e := hr1 hc2
              exact hr2' (by omega)
            · have e := hr2 (by omega)
              exact hr2' (by omega)
        · refine ⟨b, Ev.step (fun k => by rw [spec_l3Left.l0]) (ev_pos (by omega) (ev_neg hneg (Ev.now _))), by omega, by omega⟩
    obtain ⟨r, hr, hr1, hr2⟩ := key z.f3.length 0 (a - 1) (by omega) (by omega) (by omega)
    rw [List.drop_zero] at hr1 hr2
    refine ⟨r, Ev.step (fun k => by rw [spec_l3Left.f]) ?_, by omega, by omega⟩
    rw [wrap_in (by omega) (by omega)]
    exact hr
/-- A valid term. -/
def validT (z : S29) : Bool := decide (nd z ≤ 60) && (decide (dp z ≤ 16) && okT z)
theorem impl_Valid_ev (z : S29) (hz : nd z ≤ 4611686018427387904) (hs : smT z) : Ev (fun k => impl_IsValidTerm.f k z.f0 z.f1 z.f2 z.f3) (validT z) := by
  unfold impl_IsValidTerm.f validT
  refine ev_bind (impl_Count_ev z hz) (ev_ite (fun e => ev_bind (impl_Depth_ev z hz) (ev_ite (fun e1 => ev_bind (areNodes_ev z hz hs) (ev_now ?_)) (fun e1 => ev_now ?_))) (fun e => ev_now ?_))
  · have h1 : decide (nd z ≤ 60) = true := by simp; omega
    have h2 : decide (dp z ≤ 16) = true := by simp; omega
    rw [h1, h2, okT_all]; rfl
  · have h2 : decide (dp z ≤ 16) = false := by simp; omega
    rw [h2]; simp
  · have h1 : decide (nd z ≤ 60) = false := by simp; omega
    rw [h1]; rfl
theorem spec_Valid_ev (z : S29) (hz : nd z ≤ 4611686018427387904) (hs : smT z) : Ev (fun k => spec_IsValidTerm.f k z.f0 z.f1 z.f2 z.f3) (validT z) := by
  unfold spec_IsValidTerm.f validT
  obtain ⟨r, hr, hr1, hr2⟩ := l3Left_ev z hz 60 (by omega) (by omega)
  refine ev_bind hr (ev_ite (fun e => ev_bind (spec_Depth_ev z hz) (ev_ite (fun e1 => ev_bind (l3All_ev z hz hs) (ev_now ?_)) (fun e1 => ev_now ?_))) (fun e => ev_now ?_))
  · have h1 : decide (nd z ≤ 60) = true := by
      simp only [decide_eq_true_eq]
      by_cases hc : (nd z : Int) ≤ 60
      · omega
      · have := hr2 (by omega); omega
    have h2 : decide (dp z ≤ 16) = true := by simp; omega
    rw [h1, h2]; rfl
  · have h2 : decide (dp z ≤ 16) = false := by simp; omega
    rw [h2]; simp
  · have h1 : decide (nd z ≤ 60) = false := by
      simp only [decide_eq_false_iff_not]
      intro hc
      have := hr1 (by omega); omega
    rw [h1]; rfl
end Go.Proofs.Ytghngiekkkeohaa.Pu
namespace Go.Proofs.Ytghngiekkkeohaa.Pure
set_option linter.unusedSimpArgs false
set_option linter.unusedVariables false
open Go.RowKit Go.Proofs.Ytghngiekkkeohaa.F Go.Proofs.Ytghngiekkkeohaa.Pu Go.Proofs.YtghngiekkkeohaaW.PrintWords Go.Proofs.YtghngiekkkeohaaW.PrintLast

theorem FnExactIsValidTerm : ∀ (z0 : S24), (G24 z0) → ∃ k, laws_FnExactIsValidTerm.f k z0.f0 z0.f1 z0.f2 z0.f3 = some true := by
  intro z hG
  refine Ev.rounds ?_
  unfold laws_FnExactIsValidTerm.f
  obtain ⟨r, hr, hb⟩ := szTerm_ev z hG 1048576 (by omega) (by omega)
  refine ev_bind hr (ev_ite (fun _ => Ev.now _) (fun hn => ?_))
  have hw : wt z ≤ 1048576 := by omega
  have hT := toTerm_ev z hw
  have hnd := nd_conv z
  have hE := eqTerm_refl (conv z) (by omega)
  have hs := sm_conv z hw
  exact ev_bind hT (ev_bind (spec_Valid_ev (conv z) (by omega) hs) (ev_bind hT (ev_bind (impl_Valid_ev (conv z) (by omega) hs) (ev_neg (by simp) (ev_bind hT (ev_bind hE (ev_pos rfl (Ev.now _))))))))
end Go.Proofs.Ytghngiekkkeohaa.Pure
