import Derived.Test.YtjkjlkpfmfnikaaPuTerm
import Derived.Test.YtjkjlkpfmfnikaaFimplCompareTerms
import Derived.Test.YtjkjlkpfmfnikaaFspecCompareTerms
namespace Go.Proofs.Ytjkjlkpfmfnikaa.Pu
open Go.RowKit Go.Proofs.Ytjkjlkpfmfnikaa.F Go.Proofs.YtjkjlkpfmfnikaaW.PrintWords
def cmpI (a b : Int) : Int := if a < b then -1 else if a > b then 1 else 0
def cmpS (a b : ByteArray) : Int := if Op.bytesLess a.toList b.toList = true then -1 else if Op.bytesLess b.toList a.toList = true then 1 else 0
/-- The first that is not 0; the last where all the others are. -/
def firstOf : List Int → Int → Int
  | [], e => e
  | x :: xs, e => if x = 0 then firstOf xs e else x
mutual
def cmT : S42 → S42 → Int
  | ⟨a, b, c, l⟩, y => firstOf [cmpI a y.f0, cmpI b y.f1, cmpS c y.f2, cmpI l.length y.f3.length] (cmL l y.f3)
def cmL : List S42 → List S42 → Int
  | [], _ => 0
  | _ :: _, [] => 0
  | x :: xs, y :: ys => if cmT x y = 0 then cmL xs ys else cmT x y
end
theorem cmT_fields (z y : S42) : cmT z y = firstOf [cmpI z.f0 y.f0, cmpI z.f1 y.f1, cmpS z.f2 y.f2, cmpI z.f3.length y.f3.length] (cmL z.f3 y.f3) := by
  cases z
  rfl
theorem cmL_step (l m : List S42) (i : Nat) (hl : i < l.length) (hm : i < m.length) : cmL (l.drop i) (m.drop i) = if cmT l[i] m[i] = 0 then cmL (l.drop (i + 1)) (m.drop (i + 1)) else cmT l[i] m[i] := by
  rw [List.drop_eq_getElem_cons hl, List.drop_eq_getElem_cons hm, cmL]
theorem cmpI_zero {a b : Int} (h : cmpI a b = 0) : a = b := by
  unfold cmpI at h
  split at h
  · omega
  · split at h <;> omega
theorem l3Ints_eq (a b : Int) : spec_l3Ints.f a b = some (cmpI a b) := by
  unfold spec_l3Ints.f cmpI
  split
  · rfl
  · split <;> rfl
theorem l3Texts_eq (a b : ByteArray) : spec_l3Texts.f a b = some (cmpS a b) := by
  unfold spec_l3Texts.f cmpS
  split
  · rfl
  · split <;> rfl
theorem cmpInt_eq (a b : Int) : cmp_Compare_int.f a b = some (cmpI a b) := by
  unfold cmp_Compare_int.f cmp_isNaN_int.f cmpI
  simp
  split
  · rfl
  · split <;> rfl
theorem cmpStr_eq (a b : ByteArray) : cmp_Compare_string.f a b = some (cmpS a b) := by
  unfold cmp_Compare_string.f cmp_isNaN_string.f cmpS
  simp
  split
  · rfl
  · split <;> rfl
theorem or_ev (l : List Int) (hl : l.length ≤ 1000) : Ev (fun k => cmp_Or_int.f k l) (firstOf l 0) := by
  unfold cmp_Or_int.f
  have h := loop_to l.length (fun i k => cmp_Or_int.l0 k 0 l (l.length : Int) (i : Int)) (fun i => firstOf (l.drop i) 0) ?_ ?_ 0 (by omega)
  · simpa using h
  · intro i hi ih
    refine Ev.step (fun k => by rw [cmp_Or_int.l0]) (ev_pos (by omega) (ev_pos (by omega) (ev_pos (by omega) ?_)))
    rw [rd_at _ _ hi, wrap_succ (by omega)]
    simp only [List.drop_eq_getElem_cons hi, firstOf]
    refine ev_ite (fun e => ?_) (fun e => ev_now (by rw [if_neg e]))
    rw [if_pos e]
    exact ih
  · refine Ev.step (fun k => by rw [cmp_Or_int.l0]) (ev_neg (by omega) (ev_now ?_))
    rw [List.drop_length]
    rfl
theorem impl_Compare_ev (z : S42) : ∀ y : S42, nd z ≤ 4611686018427387904 → Ev (fun k => impl_CompareTerms.f k z.f0 z.f1 z.f2 z.f3 y.f0 y.f1 y.f2 y.f3) (cmT z y) := by
  induction z using term_ind with
  | h z ih =>
    intro y hz
    have h1 := nd_fields z
    have h2 := ndL_length z.f3
    have stop : ∀ (t i : Int), ¬ t = 0 → Ev (fun k => impl_CompareTerms.l0 k t i z.f0 z.f1 z.f2 z.f3 y.f0 y.f1 y.f2 y.f3) t := fun t i ht =>
      Ev.step (fun k => by rw [impl_CompareTerms.l0]) (ev_neg ht (Ev.now _))
    refine Ev.step (fun k => by rw [impl_CompareTerms.f]) ?_
    refine ev_bind0 (cmpInt_eq _ _) (ev_bind0 (cmpInt_eq _ _) (ev_bind0 (cmpStr_eq _ _) (ev_bind0 (cmpInt_eq _ _) (ev_bind (or_ev _ (by simp)) ?_))))
    rw [cmT_fields]
    simp only [firstOf]
    by_cases c0 : cmpI z.f0 y.f0 = 0
    · by_cases c1 : cmpI z.f1 y.f1 = 0
      · by_cases c2 : cmpS z.f2 y.f2 = 0
        · by_cases c3 : cmpI z.f3.length y.f3.length = 0
          · simp only [c0, c1, c2, c3, if_true]
            have hlen := cmpI_zero c3
            have h := loop_to z.f3.length (fun i k => impl_CompareTerms.l0 k 0 (i : Int) z.f0 z.f1 z.f2 z.f3 y.f0 y.f1 y.f2 y.f3) (fun i => cmL (z.f3.drop i) (y.f3.drop i)) ?_ ?_ 0 (by omega)
            · simpa using h
            · intro i hi ih2
              have h3 := ndL_mem z.f3 i hi
              refine Ev.step (fun k => by rw [impl_CompareTerms.l0]) (ev_pos rfl (ev_pos (by omega) (ev_pos (by omega) (ev_pos (by omega) ?_))))
              rw [rdT_at _ _ hi, rdT_at _ _ (show i < y.f3.length by omega), wrap_succ (by omega)]
              refine ev_bind (ih i hi _ (by omega)) ?_
              simp only [cmL_step z.f3 y.f3 i hi (by omega)]
              by_cases e : cmT z.f3[i] y.f3[i] = 0
              · rw [if_pos e, e]
                exact ih2
              · rw [if_neg e]
                exact stop _ _ e
            · refine Ev.step (fun k => by rw [impl_CompareTerms.l0]) (ev_pos rfl (ev_neg (by omega) (ev_now ?_)))
              rw [List.drop_length]
              simp [cmL]
          · simp only [c0, c1, c2, c3, if_true, if_false]
            exact stop _ _ c3
        · simp only [c0, c1, c2, if_true, if_false]
          exact stop _ _ c2
      · simp only [c0, c1, if_true, if_false]
        exact stop _ _ c1
    · simp only [c0, if_false]
      exact stop _ _ c0
theorem spec_Compare_ev (z : S42) : ∀ y : S42, nd z ≤ 4611686018427387904 → Ev (fun k => spec_CompareTerms.f k z.f0 z.f1 z.f2 z.f3 y.f0 y.f1 y.f2 y.f3) (cmT z y) := by
  induction z using term_ind with
  | h z ih =>
    intro y hz
    have h1 := nd_fields z
    have h2 := ndL_length z.f3
    refine Ev.step (fun k => by rw [spec_CompareTerms.f]) ?_
    refine ev_bind0 (l3Ints_eq _ _) (ev_bind0 (l3Ints_eq _ _) (ev_bind0 (l3Texts_eq _ _) (ev_bind0 (l3Ints_eq _ _) ?_)))
    rw [cmT_fields]
    generalize hL : [cmpI z.f0 y.f0, cmpI z.f1 y.f1, cmpS z.f2 y.f2, cmpI (z.f3.length : Int) (y.f3.length : Int)] = L
    have hL4 : L.length = 4 := by rw [← hL]; rfl
    have rest : (∀ x, x ∈ L → x = 0) → Ev (fun k => spec_CompareTerms.l1 k 0 z.f0 z.f1 z.f2 z.f3 y.f0 y.f1 y.f2 y.f3) (cmL z.f3 y.f3) := by
      intro hall
      have hlen := cmpI_zero (hall (cmpI (z.f3.length : Int) (y.f3.length : Int)) (by rw [← hL]; simp))
      have h := loop_to z.f3.length (fun i k => spec_CompareTerms.l1 k (i : Int) z.f0 z.f1 z.f2 z.f3 y.f0 y.f1 y.f2 y.f3) (fun i => cmL (z.f3.drop i) (y.f3.drop i)) ?_ ?_ 0 (by omega)
      · simpa using h
      · intro i hi ih2
        have h3 := ndL_mem z.f3 i hi
        refine Ev.step (fun k => by rw [spec_CompareTerms.l1]) (ev_pos (by omega) (ev_pos (by omega) (ev_pos (by omega) ?_)))
        rw [rdT_at _ _ hi, rdT_at _ _ (show i < y.f3.length by omega), wrap_succ (by omega)]
        refine ev_bind (ih i hi _ (by omega)) ?_
        simp only [cmL_step z.f3 y.f3 i hi (by omega)]
        refine ev_ite (fun e => ?_) (fun e => ev_now (by rw [if_neg e]))
        rw [if_pos e]
        exact ih2
      · refine Ev.step (fun k => by rw [spec_CompareTerms.l1]) (ev_neg (by omega) (ev_now ?_))
        rw [List.drop_length]
        simp [cmL]
    have all0 : ∀ L2 : List Int, (∃ x, x ∈ L2 ∧ ¬ x = 0) ∨ (∀ x, x ∈ L2 → x = 0) := by
      intro L2
      induction L2 with
      | nil => right; simp
      | cons a t iht =>
        by_cases ha : a = 0
        · rcases iht with ⟨x, hx, h⟩ | h
          · left; exact ⟨x, List.mem_cons_of_mem _ hx, h⟩
          · right; intro x hx
            rcases List.mem_cons.1 hx with rfl | hx
            · exact ha
            · exact h x hx
        · left; exact ⟨a, List.mem_cons_self, ha⟩
    have some0 : ∀ (L2 : List Int) (e e' : Int), (∃ x, x ∈ L2 ∧ ¬ x = 0) → firstOf L2 e = firstOf L2 e' := by
      intro L2 e e'
      induction L2 with
      | nil => rintro ⟨x, hx, _⟩; simp at hx
      | cons a t iht =>
        rintro ⟨x, hx, h⟩
        simp only [firstOf]
        by_cases ha : a = 0
        · rw [if_pos ha, if_pos ha]
          refine iht ⟨x, ?_, h⟩
          rcases List.mem_cons.1 hx with rfl | hx
          · exact absurd ha h
          · exact hx
        · rw [if_neg ha, if_neg ha]
    have first : ∀ i : Nat, i ≤ 4 → Ev (fun k => spec_CompareTerms.l0 k L (i : Int) z.f0 z.f1 z.f2 z.f3 y.f0 y.f1 y.f2 y.f3) (firstOf (L.drop i) (cmL z.f3 y.f3)) ∨ ∃ x, x ∈ L.take i ∧ ¬ x = 0 := by
      intro i hi
      by_cases hx : ∃ x, x ∈ L.take i ∧ ¬ x = 0
      · exact .inr hx
      · left
        have hz0 : ∀ x, x ∈ L.take i → x = 0 := fun x hm => Classical.byContradiction fun h => hx ⟨x, hm, h⟩
        have key : ∀ d j : Nat, j + d = 4 → (∀ x, x ∈ L.take j → x = 0) → Ev (fun k => spec_CompareTerms.l0 k L (j : Int) z.f0 z.f1 z.f2 z.f3 y.f0 y.f1 y.f2 y.f3) (firstOf (L.drop j) (cmL z.f3 y.f3)) := by
          intro d
          induction d with
          | zero =>
            intro j hj h0
            refine Ev.step (fun k => by rw [spec_CompareTerms.l0]) (ev_neg (by omega) ?_)
            rw [List.take_of_length_le (by omega)] at h0
            rw [List.drop_eq_nil_of_le (by omega)]
            exact rest h0
          | succ d ihd =>
            intro j hj h0
            have hjl : j < L.length := by omega
            refine Ev.step (fun k => by rw [spec_CompareTerms.l0]) (ev_pos (by omega) (ev_pos (by omega) ?_))
            rw [rd_at _ _ hjl, wrap_succ (by omega)]
            simp only [List.drop_eq_getElem_cons hjl, firstOf]
            refine ev_ite (fun e => ?_) (fun e => ev_now (by rw [if_neg e]))
            rw [if_pos e]
            refine ihd (j + 1) (by omega) (fun x hx => ?_)
            rw [List.take_succ_eq_append_getElem hjl, List.mem_append] at hx
            rcases hx with hx | hx
            · exact h0 x hx
            · rw [List.mem_singleton.1 hx]; exact e
        exact key (4 - i) i (by omega) hz0
    rcases first 0 (by omega) with h | ⟨x, hx, _⟩
    · simpa using h
    · simp at hx
end Go.Proofs.Ytjkjlkpfmfnikaa.Pu
