import Derived.Test.YtghngiekkkeohaaPuBase
import Derived.Test.YtghngiekkkeohaaFlawsszTerm
import Derived.Test.YtghngiekkkeohaaFlawstoTerm
import Derived.Test.YtghngiekkkeohaaFlawseqTerm
import Derived.Test.YtghngiekkkeohaaFO
/-! Terms: sized, copied, compared. -/
namespace Go.Proofs.Ytghngiekkkeohaa.Pu
set_option linter.unusedSimpArgs false
set_option linter.unusedVariables false
open Go.RowKit Go.Proofs.Ytghngiekkkeohaa.F Go.Proofs.YtghngiekkkeohaaW.PrintWords
theorem rdL_at (xs : List S24) (i : Nat) (h : i < xs.length) : rd_T24 xs (i : Int) = xs[i] := by
  simp [rd_T24, List.getD_eq_getElem?_getD, List.getElem?_eq_getElem h]
theorem rdT_at (xs : List S29) (i : Nat) (h : i < xs.length) : rd_T29 xs (i : Int) = xs[i] := by
  simp [rd_T29, List.getD_eq_getElem?_getD, List.getElem?_eq_getElem h]
mutual
/-- The program's term of a law's. -/
def conv : S24 → S29
  | ⟨a, b, c, l⟩ => ⟨a, b, c, convL l⟩
def convL : List S24 → List S29
  | [] => []
  | x :: xs => conv x :: convL xs
end
mutual
/-- How many nodes a law's term has, and how many bytes its names. -/
def wt : S24 → Nat
  | ⟨_, _, c, l⟩ => c.size + wtL l
def wtL : List S24 → Nat
  | [] => 0
  | x :: xs => 1 + wt x + wtL xs
end
mutual
/-- Nodes. -/
def nd : S29 → Nat
  | ⟨_, _, _, l⟩ => 1 + ndL l
def ndL : List S29 → Nat
  | [] => 0
  | x :: xs => nd x + ndL xs
end
theorem convL_length (l : List S24) : (convL l).length = l.length := by
  induction l with
  | nil => rfl
  | cons x xs ih => simp [convL, ih]
theorem convL_at (l : List S24) : ∀ (i : Nat) (h : i < l.length) (h' : i < (convL l).length), (convL l)[i] = conv l[i] := by
  induction l with
  | nil => intro i h; simp at h
  | cons x xs ih =>
    intro i h h'
    cases i with
    | zero => simp [convL]
    | succ i => simp only [convL, List.getElem_cons_succ]; exact ih i (by simpa using h) _
theorem conv_fields (z : S24) : conv z = ⟨z.f0, z.f1, z.f2, convL z.f3⟩ := by
  cases z
  rfl
theorem wtL_mem (l : List S24) (i : Nat) (h : i < l.length) : 1 + wt l[i] ≤ wtL l := by
  induction l generalizing i with
  | nil => simp at h
  | cons x xs ih =>
    cases i with
    | zero => simp [wtL]
    | succ i => simp only [List.getElem_cons_succ, wtL]; have := ih i (by simpa using h); omega
theorem wtL_length (l : List S24) : l.length ≤ wtL l := by
  induction l with
  | nil => simp
  | cons x xs ih => simp [wtL]; omega
theorem wt_fields (z : S24) : wt z = z.f2.size + wtL z.f3 := by
  cases z
  rfl
theorem nd_fields (z : S29) : nd z = 1 + ndL z.f3 := by
  cases z
  rfl
theorem nd_pos (z : S29) : 1 ≤ nd z := by
  rw [nd_fields]; omega
theorem ndL_length (l : List S29) : l.length ≤ ndL l := by
  induction l with
  | nil => simp
  | cons x xs ih => have := nd_pos x; simp [ndL]; omega
theorem ndL_mem (l : List S29) (i : Nat) (h : i < l.length) : nd l[i] ≤ ndL l := by
  induction l generalizing i with
  | nil => simp at h
  | cons x xs ih =>
    cases i with
    | zero => simp [ndL]
    | succ i => simp only [List.getElem_cons_succ, ndL]; have := ih i (by simpa using h); omega
theorem ndL_append (l m : List S29) : ndL (l ++ m) = ndL l + ndL m := by
  induction l with
  | nil => simp [ndL]
  | cons x xs ih => simp [ndL, ih]; omega
theorem ndL_take_succ (l : List S29) (i : Nat) (h : i < l.length) : ndL (l.take (i + 1)) = ndL (l.take i) + nd l[i] := by
  rw [List.take_succ_eq_append_getElem h, ndL_append]
  simp [ndL]
/-- A term's members are smaller: induction over terms. -/
theorem term_ind {P : S29 → Prop} (h : ∀ z : S29, (∀ (i : Nat) (hi : i < z.f3.length), P z.f3[i]) → P z) (z : S29) : P z := by
  have key : ∀ n, ∀ z : S29, nd z ≤ n → P z := by
    intro n
    induction n with
    | zero => intro z hz; have := nd_pos z; omega
    | succ n ih =>
      intro z hz
      refine h z (fun i hi => ih _ ?_)
      have h1 := ndL_mem z.f3 i hi
      have h2 := nd_fields z
      omega
  exact key (nd z) z (Nat.le_refl _)
mutual
def ndl : S24 → Nat
  | ⟨_, _, _, l⟩ => 1 + ndlL l
def ndlL : List S24 → Nat
  | [] => 0
  | x :: xs => ndl x + ndlL xs
end
theorem ndl_fields (z : S24) : ndl z = 1 + ndlL z.f3 := by
  cases z
  rfl
theorem ndlL_mem (l : List S24) (i : Nat) (h : i < l.length) : ndl l[i] ≤ ndlL l := by
  induction l generalizing i with
  | nil => simp at h
  | cons x xs ih =>
    cases i with
    | zero => simp [ndlL]
    | succ i => simp only [List.getElem_cons_succ, ndlL]; have := ih i (by simpa using h); omega
theorem law_ind {P : S24 → Prop} (h : ∀ z : S24, (∀ (i : Nat) (hi : i < z.f3.length), P z.f3[i]) → P z) (z : S24) : P z := by
  have key : ∀ n, ∀ z : S24, ndl z ≤ n → P z := by
    intro n
    induction n with
    | zero => intro z hz; have := ndl_fields z; omega
    | succ n ih =>
      intro z hz
      refine h z (fun i hi => ih _ ?_)
      have h1 := ndlL_mem z.f3 i hi
      have h2 := ndl_fields z
      omega
  exact key (ndl z) z (Nat.le_refl _)
mutual
theorem nd_conv : ∀ z : S24, nd (conv z) ≤ 1 + wt z
  | ⟨a, b, c, l⟩ => by
    have := ndL_conv l
    simp only [conv, nd, wt]
    omega
theorem ndL_conv : ∀ l : List S24, ndL (convL l) ≤ wtL l
  | [] => by simp [convL, ndL, wtL]
  | x :: xs => by
    have h1 := nd_conv x
    have h2 := ndL_conv xs
    simp only [convL, ndL, wtL]
    omega
end
/-! ### toTerm -/
theorem toTermS_of (l : List S24) (hl : l.length ≤ 1048576) (h : ∀ (i : Nat) (hi : i < l.length), Ev (fun k => laws_toTerm.f k l[i].f0 l[i].f1 l[i].f2 l[i].f3) ((conv l[i]).f0, (conv l[i]).f1, (conv l[i]).f2, (conv l[i]).f3)) : Ev (fun k => laws_toTermS.f k l) (convL l) := by
  have hc := convL_length l
  refine Ev.step (fun k => by rw [laws_toTermS.f]) (ev_pos (by omega) (ev_pos (by omega) ?_))
  have h2 := loop_ev l.length (fun i k => laws_toTermS.l0 k l (fillTo z29 (convL l) i) (i : Int)) (convL l) ?_ ?_
  · simpa [fillTo_zero, hc] using h2
  · intro i hi ih
    refine Ev.step (fun k => by rw [laws_toTermS.l0]) ?_
    refine ev_pos (by omega) (ev_pos (by omega) ?_)
    rw [rdL_at _ _ hi]
    refine ev_bind (h i hi) (ev_pos (by rw [fillTo_length _ _ _ (by omega)]; omega) ?_)
    have e : (⟨(conv l[i]).f0, (conv l[i]).f1, (conv l[i]).f2, (conv l[i]).f3⟩ : S29) = (convL l)[i]'(by omega) := by rw [convL_at l i hi]; generalize conv l[i] = z_; cases z_; rfl
    simp only [e]
    rw [wrap_succ (by omega), Int.toNat_natCast, fillTo_set _ _ _ (by omega)]
    exact ih
  · refine Ev.step (fun k => by rw [laws_toTermS.l0]) (ev_neg (by omega) (ev_now ?_))
    rw [← hc]
    exact fillTo_all _ _
theorem toTerm_ev (z : S24) : wt z ≤ 1048576 → Ev (fun k => laws_toTerm.f k z.f0 z.f1 z.f2 z.f3) ((conv z).f0, (conv z).f1, (conv z).f2, (conv z).f3) := by
  induction z using law_ind with
  | h z ih =>
    intro hz
    have h1 := wt_fields z
    have h2 := wtL_length z.f3
    refine Ev.step (fun k => by rw [laws_toTerm.f]) (ev_bind (toTermS_of z.f3 (by omega) (fun i hi => ih i hi ?_)) (ev_now ?_))
    · have := wtL_mem z.f3 i hi
      omega
    · rw [conv_fields]
/-! ### eqTerm -/
theorem eqTermS_of (l : List S29) (hl : l.length ≤ 9223372036854775806) (h : ∀ (i : Nat) (hi : i < l.length), Ev (fun k => laws_eqTerm.f k l[i].f0 l[i].f1 l[i].f2 l[i].f3 l[i].f0 l[i].f1 l[i].f2 l[i].f3) true) : Ev (fun k => laws_eqTermS.f k l l) true := by
  refine Ev.step (fun k => by rw [laws_eqTermS.f]) (ev_pos rfl ?_)
  refine loop_ev l.length (fun i k => laws_eqTermS.l0 k l l (i : Int)) true ?_ ?_
  · intro i hi ih
    refine Ev.step (fun k => by rw [laws_eqTermS.l0]) ?_
    refine ev_pos (by omega) (ev_pos (by omega) (ev_pos (by omega) ?_))
    rw [rdT_at _ _ hi]
    refine ev_bind (h i hi) (ev_pos rfl ?_)
    rw [wrap_succ (by omega)]
    exact ih
  · exact Ev.step (fun k => by rw [laws_eqTermS.l0]) (ev_neg (by omega) (Ev.now _))
theorem eqTerm_refl (z : S29) : nd z ≤ 9223372036854775806 → Ev (fun k => laws_eqTerm.f k z.f0 z.f1 z.f2 z.f3 z.f0 z.f1 z.f2 z.f3) true := by
  induction z using term_ind with
  | h z ih =>
    intro hz
    have h1 := nd_fields z
    have h2 := ndL_length z.f3
    refine Ev.step (fun k => by rw [laws_eqTerm.f]) (ev_pos rfl (ev_pos rfl (ev_pos rfl (ev_bind (eqTermS_of z.f3 (by omega) (fun i hi => ih i hi ?_)) (ev_pos rfl (Ev.now _))))))
    have := ndL_mem z.f3 i hi
    omega
/-! ### szTerm -/
theorem szTermS_loop (l : List S24) (hl : l.length ≤ 1048576) (h : ∀ (i : Nat) (hi : i < l.length) (a : Int), 0 ≤ a → a ≤ 1048576 → ∃ r, Ev (fun k => laws_szTerm.f k l[i].f0 l[i].f1 l[i].f2 l[i].f3 a) r ∧ (r < 0 ∨ (0 ≤ r ∧ r + (wt l[i] : Int) ≤ a))) (d : Nat) :
    ∀ (i : Nat) (a : Int), i + d = l.length → 0 ≤ a → a ≤ 1048576 → ∃ r, Ev (fun k => laws_szTermS.l0 k l a (i : Int)) r ∧ (r < 0 ∨ (0 ≤ r ∧ r + (wtL (l.drop i) : Int) ≤ a + ((l.length - i : Nat) : Int))) := by
  induction d with
  | zero =>
    intro i a hd h0 h1
    refine ⟨a, Ev.step (fun k => by rw [laws_szTermS.l0]) (ev_neg (by omega) (Ev.now _)), .inr ⟨h0, ?_⟩⟩
    rw [List.drop_eq_nil_of_le (by omega)]
    simp [wtL]
    omega
  | succ d ih =>
    intro i a hd h0 h1
    have hi : i < l.length := by omega
    obtain ⟨r1, hr1, hb1⟩ := h i hi a h0 h1
    rcases hb1 with hb1 | ⟨hb1, hb2⟩
    · refine ⟨-1, Ev.step (fun k => by rw [laws_szTermS.l0]) (ev_pos (by omega) (ev_pos (by omega) ?_)), .inl (by omega)⟩
      rw [rdL_at _ _ hi]
      exact ev_bind hr1 (ev_pos hb1 (Ev.now _))
    · obtain ⟨r, hr, hb⟩ := ih (i + 1) r1 (by omega) hb1 (by omega)
      refine ⟨r, Ev.step (fun k => by rw [laws_szTermS.l0]) (ev_pos (by omega) (ev_pos (by omega) ?_)), ?_⟩
      · rw [rdL_at _ _ hi]
        refine ev_bind hr1 (ev_neg (by omega) ?_)
        rw [wrap_succ (by omega)]
        exact hr
      · rcases hb with hb | ⟨hb0, hb⟩
        · exact .inl hb
        · refine .inr ⟨hb0, ?_⟩
          rw [List.drop_eq_getElem_cons hi, wtL]
          omega
theorem szTermS_of (l : List S24) (hl : l.length ≤ maxLen) (h : ∀ (i : Nat) (hi : i < l.length) (a : Int), 0 ≤ a → a ≤ 1048576 → ∃ r, Ev (fun k => laws_szTerm.f k l[i].f0 l[i].f1 l[i].f2 l[i].f3 a) r ∧ (r < 0 ∨ (0 ≤ r ∧ r + (wt l[i] : Int) ≤ a))) (a : Int) (h0 : 0 ≤ a) (h1 : a ≤ 1048576) :
    ∃ r, Ev (fun k => laws_szTermS.f k l a) r ∧ (r < 0 ∨ (0 ≤ r ∧ r + (wtL l : Int) ≤ a)) := by
  have hm : maxLen = 9223372036854775807 := rfl
  have hw : wrap64 (a - (l.length : Int)) = a - (l.length : Int) := wrap_in (by omega) (by omega)
  by_cases hneg : a - (l.length : Int) < 0
  · exact ⟨-1, Ev.step (fun k => by rw [laws_szTermS.f]) (ev_pos (by rw [hw]; exact hneg) (Ev.now _)), .inl (by omega)⟩
  · obtain ⟨r, hr, hb⟩ := szTermS_loop l (by omega) h l.length 0 (a - (l.length : Int)) (by omega) (by omega) (by omega)
    refine ⟨r, Ev.step (fun k => by rw [laws_szTermS.f]) (ev_neg (by rw [hw]; exact hneg) (by rw [hw]; exact hr)), ?_⟩
    rcases hb with hb | ⟨hb0, hb⟩
    · exact .inl hb
    · refine .inr ⟨hb0, ?_⟩
      rw [List.drop_zero] at hb
      omega
theorem szTerm_ev (z : S24) : G24 z → ∀ a : Int, 0 ≤ a → a ≤ 1048576 → ∃ r, Ev (fun k => laws_szTerm.f k z.f0 z.f1 z.f2 z.f3 a) r ∧ (r < 0 ∨ (0 ≤ r ∧ r + (wt z : Int) ≤ a)) := by
  induction z using law_ind with
  | h z ih =>
    intro hg a h0 h1
    obtain ⟨_, _, g2, g3, g4⟩ := hg.open_
    have hm : maxLen = 9223372036854775807 := rfl
    have hw : wrap64 (a - (z.f2.size : Int)) = a - (z.f2.size : Int) := wrap_in (by omega) (by omega)
    have hz := wt_fields z
    by_cases hneg : a - (z.f2.size : Int) < 0
    · exact ⟨-1, Ev.step (fun k => by rw [laws_szTerm.f]) (ev_pos (by rw [hw]; exact hneg) (Ev.now _)), .inl (by omega)⟩
    · obtain ⟨r, hr, hb⟩ := szTermS_of z.f3 g3 (fun i hi a => ih i hi (g4 _ (List.getElem_mem hi)) a) (a - (z.f2.size : Int)) (by omega) (by omega)
      rcases hb with hb | ⟨hb0, hb⟩
      · exact ⟨-1, Ev.step (fun k => by rw [laws_szTerm.f]) (ev_neg (by rw [hw]; exact hneg) (by rw [hw]; exact ev_bind hr (ev_pos hb (Ev.now _)))), .inl (by omega)⟩
      · exact ⟨r, Ev.step (fun k => by rw [laws_szTerm.f]) (ev_neg (by rw [hw]; exact hneg) (by rw [hw]; exact ev_bind hr (ev_neg (by omega) (Ev.now _)))), .inr ⟨hb0, by omega⟩⟩
end Go.Proofs.Ytghngiekkkeohaa.Pu
